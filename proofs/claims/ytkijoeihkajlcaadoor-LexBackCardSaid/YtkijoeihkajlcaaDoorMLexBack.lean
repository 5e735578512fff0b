/-
  LexBack answers true for every input: the row and its tied card.
-/
import Derived.Test.YtkijoeihkajlcaaDoorMc
import Derived.Test.YtkijoeihkajlcaaDoorMp
import Derived.Test.YtkijoeihkajlcaaDoorRAll6
import Derived.Test.YtkijoeihkajlcaaDoorRows
import Derived.Test.YtkijoeihkajlcaaDoorCards
import Derived.Test.YtkijoeihkajlcaaDoorTie
import Derived.Lib.LaidTab
import Derived.Stop.LaidErr
import Derived.ProofKit
import Derived.OpenShut
import Derived.LaidMore
import Derived.Lay
import Derived.ChangeMaps5
import Derived.SevenTiedAt
import Derived.Stop.Joined
import Derived.SliceStrings
import Derived.Carry

set_option linter.unusedVariables false
set_option linter.unusedSimpArgs false
namespace Go.Proofs.YtkijoeihkajlcaaDoor
open Go.RowKit Go.Shelf
open Go.Proofs.YtkijoeihkajlcaaDoorW.PrintWords (Kd OwnRow Reps own_nil own_slice own_weaken pw_own_below blk_new blk_cell add_field)

/-- Two tokens are the same, wherever they begin. -/
def likeT (a b : Tk) : Bool := decide (a.f0 = b.f0) && (decide (a.f1 = b.f1) && decide (a.f2 = b.f2))
def sameTL : List Tk → List Tk → Bool
  | [], _ => true
  | x :: xs, y :: ys => likeT x y && sameTL xs ys
  | _ :: _, [] => true
def sameT (xs ys : List Tk) : Bool := decide (xs.length = ys.length) && sameTL xs ys
theorem string_same (a b : ByteArray) : (a.toList == b.toList) = decide (a = b) := by
  rw [Bool.eq_iff_iff, beq_iff_eq, decide_eq_true_iff, bs_toList, bs_toList]
  constructor
  · intro h
    apply ByteArray.ext
    exact Array.toList_inj.1 h
  · rintro rfl; rfl
theorem int_same (a b : Int) : (a == b) = decide (a = b) := by rw [Bool.eq_iff_iff, beq_iff_eq, decide_eq_true_iff]

set_option maxRecDepth 100000 in
set_option maxHeartbeats 4000000 in
theorem same1_calls (a b : Tk) (w : World) : Calls Tryd.prog 48 #[.agg #[.int .i64 a.f0, .string a.f1, .int .i64 a.f2, .int .i64 a.f3], .agg #[.int .i64 b.f0, .string b.f1, .int .i64 b.f2, .int .i64 b.f3]] w fun e w' => e = .returned (.bool (likeT a b)) ∧ Below w.heap.size w w' := by
  obtain ⟨a0, a1, a2, a3⟩ := a
  obtain ⟨b0, b1, b2, b3⟩ := b
  have hB := Lib.hid (below_two w (.cells #[.int .i64 a0, .string a1, .int .i64 a2, .int .i64 a3] 37 (0, 0)) (.cells #[.int .i64 b0, .string b1, .int .i64 b2, .int .i64 b3] 37 (0, 0)))
  unfold likeT
  simp only
  rw [← string_same, ← int_same, ← int_same]
  go_enter Tryd.func48, Tryd.ntmps48
  cases h0 : (a0 == b0)
  · go_wp2
    go_ret
    exact ⟨rfl, hB.out⟩
  · cases h1 : (a1.toList == b1.toList)
    · go_wp2
      go_ret
      exact ⟨rfl, hB.out⟩
    · go_wp2
      go_ret
      exact ⟨rfl, hB.out⟩
theorem enters_same1 (args : Array Value) (w : World) : (callFunc 48 args).run Tryd.prog w = .ok (.enter 48 args) w := enters_of Tryd.func48 (by kernel_rfl) rfl args w
theorem sameTL_drop (xs ys : List Tk) (i : Nat) (h : i < xs.length) (h2 : i < ys.length) : sameTL (xs.drop i) (ys.drop i) = (likeT (xs.getD i zTk) (ys.getD i zTk) && sameTL (xs.drop (i + 1)) (ys.drop (i + 1))) := by
  rw [words_drop xs i h, words_drop ys i h2]
  rfl

set_option maxRecDepth 100000 in
set_option maxHeartbeats 4000000 in
theorem EqualFunc_calls (A : Option Addr) (c : Nat) (xs : List Tk) (A' : Option Addr) (c' : Nat) (ys : List Tk) (w : World) (hr : Kd.C kTk w A xs.length xs) (hr' : Kd.C kTk w A' ys.length ys) (hn : xs.length ≤ 140737488355328) (hn' : ys.length ≤ 140737488355328) :
    Calls Tryd.prog 47 #[.slice A xs.length c, .slice A' ys.length c', .func (.func 48) #[] #[]] w fun e w' => e = .returned (.bool (sameT xs ys)) ∧ Below w.heap.size w w' := by
  obtain ⟨T, hT⟩ : ∃ T, T = sameT xs ys := ⟨_, rfl⟩
  rw [← hT]
  unfold sameT at hT
  have hF := enters_same1
  by_cases hl : xs.length = ys.length
  · rw [decide_eq_true hl, Bool.true_and] at hT
    have hTh := Lib.hid hT
    have hrh := Lib.hid hr
    have hrh' := Lib.hid hr'
    have hlh := Lib.hid hl
    have hlb : ((xs.length : Int) != (ys.length : Int)) = false := by rw [hl]; exact bne_self_eq_false _
    clear hT hr hr' hl
    go_enter Tryd.func47, Tryd.ntmps47
    go_wp2
    go_loopg [17] xs.length (fun g v17 wr => ∃ i : Nat, v17 = .int .i64 i ∧ i ≤ xs.length ∧ Hid (g + i = xs.length) ∧ Hid (Below w.heap.size w wr) ∧ Hid (T = sameTL (xs.drop i) (ys.drop i)))
    case atStart => exact ⟨0, rfl, Nat.zero_le _, Lib.hid rfl, Lib.hid (Below.refl _ _), Lib.hid (by simpa using hTh.out)⟩
    case round =>
      obtain ⟨i, rfl, hi, hg, hB, hTi⟩ := hrel
      by_cases hlt : i < xs.length
      · have hlt2 : i < ys.length := by have := hlh.out; omega
        obtain ⟨ad, rfl, d0, d1, d2, d3⟩ := at_Tk (Kd.C_below hrh.out hB.out) i (by omega) (by omega)
        simp only [Int.toNat_natCast] at d0 d1 d2 d3
        have hdr := Lib.hid (sameTL_drop xs ys i hlt hlt2)
        obtain ⟨x, hx⟩ : ∃ x, x = xs.getD i zTk := ⟨_, rfl⟩
        obtain ⟨y, hy⟩ : ∃ y, y = ys.getD i zTk := ⟨_, rfl⟩
        have hBx := Lib.hid (hB.out.alloc hB.out.size (.cells #[.int .i64 x.f0, .string x.f1, .int .i64 x.f2, .int .i64 x.f3] 37 (0, 0)))
        obtain ⟨ad', rfl, e0, e1, e2, e3⟩ := at_Tk (Kd.C_below hrh'.out hBx.out) i (by omega) (by omega)
        simp only [Int.toNat_natCast] at e0 e1 e2 e3
        rw [← hx] at d0 d1 d2 d3 hdr
        rw [← hy] at e0 e1 e2 e3 hdr
        have hBy := Lib.hid (hBx.out.alloc (by have := hBx.out.size; simpa using this) (.cells #[.int .i64 y.f0, .string y.f1, .int .i64 y.f2, .int .i64 y.f3] 37 (0, 0)))
        clear hx hy
        have hsc := Lib.hid (same1_calls x y)
        go_wp2_with fail
        refine (hsc.out _).mono ?_
        rintro e w1 ⟨rfl, hb⟩
        have hB1 := Lib.hid (below_then hBy.out hb (Nat.le_refl _))
        clear hb
        cases hlk : likeT x y
        · go_wp2
          go_ret
          refine ⟨?_, hB1.out⟩
          rw [hTi.out, hdr.out, hlk]
          rfl
        · go_wp2
          go_roundg (xs.length - (i + 1))
          case measure => have := hg.out; omega
          case rel => exact ⟨i + 1, by go_num, by omega, Lib.hid (by omega), hB1, Lib.hid (by rw [hTi.out, hdr.out, hlk, Bool.true_and])⟩
      · go_wp2
        go_ret
        refine ⟨?_, hB.out⟩
        rw [hTi.out, List.drop_of_length_le (by omega)]
        rfl
  · rw [decide_eq_false hl, Bool.false_and] at hT
    subst hT
    have hlb : ((xs.length : Int) != (ys.length : Int)) = true := by rw [bne_iff_ne]; omega
    go_enter Tryd.func47, Tryd.ntmps47
    go_wp2
    go_ret
    exact ⟨rfl, Below.refl _ _⟩

set_option maxRecDepth 100000 in
set_option maxHeartbeats 4000000 in
theorem Same_calls (A : Option Addr) (c : Nat) (xs : List Tk) (A' : Option Addr) (c' : Nat) (ys : List Tk) (w : World) (hr : Kd.C kTk w A xs.length xs) (hr' : Kd.C kTk w A' ys.length ys) (hn : xs.length ≤ 140737488355328) (hn' : ys.length ≤ 140737488355328) :
    Calls Tryd.prog 29 #[.slice A xs.length c, .slice A' ys.length c'] w fun e w' => e = .returned (.bool (sameT xs ys)) ∧ Below w.heap.size w w' := by
  have hc := Lib.hid (EqualFunc_calls A c xs A' c' ys w hr hr' hn hn')
  clear hr hr'
  go_enter Tryd.func29, Tryd.ntmps29
  go_wp2_with fail
  refine hc.out.mono ?_
  rintro e w1 ⟨rfl, hb⟩
  go_wp2
  go_ret
  exact ⟨rfl, hb⟩
end Go.Proofs.YtkijoeihkajlcaaDoor

set_option linter.unusedVariables false
set_option linter.unusedSimpArgs false
namespace Go.Proofs.YtkijoeihkajlcaaDoor.PAll
open Go.RowKit Go.Shelf
open Go.Proofs.YtkijoeihkajlcaaDoorW.PrintWords

theorem bt_nat (s : ByteArray) (i : Nat) (h : i < s.size) : bt s (i : Int) = (s[i].toNat : Int) := by
  rw [← bt_at s i (by simpa using h)]
  rfl
theorem wrap_nat (n : Nat) (h : n < 9223372036854775807) : wrap64 ((n : Int)) = n := by unfold wrap64; omega
theorem wrap_succ (n : Nat) (h : n < 9223372036854775807) : wrap64 ((n : Int) + 1) = ((n + 1 : Nat) : Int) := by unfold wrap64; omega
theorem Ev.ite_pos {α : Type} {c : Prop} [Decidable c] {g f : Nat → Option α} {r : α} (hc : c) (h : Ev g r) : Ev (fun n => if c then g n else f n) r := by simpa [hc] using h
theorem Ev.ite_neg {α : Type} {c : Prop} [Decidable c] {g f : Nat → Option α} {r : α} (hc : ¬ c) (h : Ev f r) : Ev (fun n => if c then g n else f n) r := by simpa [hc] using h
theorem blank_f (c : UInt8) : swardref02_blank.f (c.toNat : Int) = some (Lx.isBlank c) := by
  unfold swardref02_blank.f Lx.isBlank
  split
  · rename_i h; have : c.toNat = 32 := by omega
    simp [this]
  · split
    · rename_i h1 h; have : c.toNat = 9 := by omega
      simp [this]
    · rename_i h1 h2
      have a : (c.toNat == 32) = false := by simp; omega
      have b : (c.toNat == 9) = false := by simp; omega
      rw [a, b, Bool.false_or, Bool.false_or]
      congr 1
      rw [Bool.eq_iff_iff, beq_iff_eq, beq_iff_eq]
      omega
theorem Ev.succ {α : Type} {g : Nat → Option α} {r : α} (h : Ev (fun k => g (k + 1)) r) : Ev g r := Ev.step (fun _ => rfl) h
theorem ev_skip (s : ByteArray) (hs : s.size ≤ 4200) : ∀ (n i : Nat), i ≤ s.size → s.size - i = n →
    Ev (fun k => swardref02_skip.l0 k s i) ((i + Lx.skipF false (s.data.toList.drop i) : Nat) : Int) ∧ Ev (fun k => swardref02_skip.l1 k s i) ((i + Lx.skipF true (s.data.toList.drop i) : Nat) : Int) := by
  intro n
  induction n with
  | zero =>
    intro i hi hn
    have he : s.data.toList.drop i = [] := List.drop_of_length_le (by simp; omega)
    have h1 : ¬ ((i : Int) < (s.size : Int)) := by omega
    have h0 : Ev (fun k => swardref02_skip.l0 k s i) ((i + Lx.skipF false (s.data.toList.drop i) : Nat) : Int) := by
      rw [he]
      refine Ev.succ (Ev.succ ?_)
      simp only [swardref02_skip.l0, swardref02_skip.j1, h1, if_false, Bool.false_eq_true]
      exact Ev.now _
    refine ⟨h0, Ev.succ ?_⟩
    simp only [swardref02_skip.l1, h1, if_false]
    rw [he] at h0 ⊢
    exact h0
  | succ n ih =>
    intro i hi hn
    have hlt : i < s.size := by omega
    obtain ⟨ih0, ih1⟩ := ih (i + 1) (by omega) (by omega)
    have hd := drop_cons s i hlt
    rw [hd]
    have hb := bt_nat s i hlt
    have hw := wrap_succ i (by omega)
    have h1 : (i : Int) < (s.size : Int) := by omega
    have h2 : (0 : Int) ≤ (i : Int) := by omega
    have h0 : Ev (fun k => swardref02_skip.l0 k s i) ((i + Lx.skipF false (s[i] :: s.data.toList.drop (i + 1)) : Nat) : Int) := by
      by_cases hbl : Lx.isBlank s[i] = true
      · have hn35 : ¬ ((s[i].toNat : Int) = 35) := by
          intro h
          have : s[i].toNat = 35 := by omega
          simp [Lx.isBlank, this] at hbl
        refine Ev.succ (Ev.succ ?_)
        simp only [swardref02_skip.l0, swardref02_skip.j1, h1, h2, if_true, hb, blank_f, Option.bind_some, hbl, hn35, if_false, hw]
        simp only [Lx.skipF, hbl, if_true]
        rw [show i + (Lx.skipF false (s.data.toList.drop (i + 1)) + 1) = i + 1 + Lx.skipF false (s.data.toList.drop (i + 1)) by omega]
        exact ih0
      · by_cases h35 : s[i].toNat = 35
        · have e35 : ((s[i].toNat : Int) == 35) = true := by simp; omega
          have f35 : (s[i].toNat : Int) = 35 := by omega
          have f10 : ¬ (35 : Int) = 10 := by omega
          refine Ev.succ (Ev.succ (Ev.succ ?_))
          simp only [swardref02_skip.l0, swardref02_skip.j1, swardref02_skip.l1, h1, h2, if_true, hb, blank_f, Option.bind_some, hbl, e35, f35, if_false, Bool.false_eq_true, f10, hw, beq_self_eq_true]
          simp only [Lx.skipF, hbl, if_false, Bool.false_eq_true, h35, if_true]
          rw [show i + (Lx.skipF true (s.data.toList.drop (i + 1)) + 1) = i + 1 + Lx.skipF true (s.data.toList.drop (i + 1)) by omega]
          exact ih1
        · have e35 : ((s[i].toNat : Int) == 35) = false := by simp; omega
          refine Ev.succ (Ev.succ ?_)
          simp only [swardref02_skip.l0, swardref02_skip.j1, h1, h2, if_true, hb, blank_f, Option.bind_some, hbl, e35, if_false, Bool.false_eq_true]
          simp only [Lx.skipF, hbl, if_false, Bool.false_eq_true, h35, Nat.add_zero]
          exact Ev.now _
    refine ⟨h0, ?_⟩
    by_cases h10 : s[i].toNat = 10
    · have f10 : (s[i].toNat : Int) = 10 := by omega
      refine Ev.succ ?_
      simp only [swardref02_skip.l1, h1, h2, if_true, hb, f10]
      have : Lx.skipF true (s[i] :: s.data.toList.drop (i + 1)) = Lx.skipF false (s[i] :: s.data.toList.drop (i + 1)) := by
        simp [Lx.skipF, Lx.notNl, Lx.isBlank, h10]
      rw [this]
      exact h0
    · have f10 : ¬ ((s[i].toNat : Int) = 10) := by omega
      refine Ev.succ ?_
      simp only [swardref02_skip.l1, h1, h2, if_true, hb, f10, if_false, hw]
      have : Lx.skipF true (s[i] :: s.data.toList.drop (i + 1)) = Lx.skipF true (s.data.toList.drop (i + 1)) + 1 := by
        simp [Lx.skipF, Lx.notNl, h10]
      rw [this, show i + (Lx.skipF true (s.data.toList.drop (i + 1)) + 1) = i + 1 + Lx.skipF true (s.data.toList.drop (i + 1)) by omega]
      exact ih1
theorem ev_skip_f (s : ByteArray) (hs : s.size ≤ 4200) (i : Nat) (hi : i ≤ s.size) : Ev (fun k => swardref02_skip.f k s i) ((i + Lx.skipL (s.data.toList.drop i) : Nat) : Int) := (ev_skip s hs _ i hi rfl).1
theorem letter_f (c : UInt8) : swardref02_letter.f (c.toNat : Int) = some (Lx.isLet c) := by
  unfold swardref02_letter.f Lx.isLet
  split
  · rename_i h
    have a : decide (97 ≤ c.toNat) = true := decide_eq_true (by omega)
    rw [a, Bool.true_and]
    congr 1
    rw [decide_eq_decide]
    omega
  · rename_i h
    have a : decide (97 ≤ c.toNat) = false := decide_eq_false (by omega)
    rw [a, Bool.false_and]
theorem quoted_f (c : UInt8) : swardref02_quoted.f (c.toNat : Int) = some (Lx.isTxt c) := by
  unfold swardref02_quoted.f Lx.isTxt
  by_cases h1 : 32 ≤ c.toNat
  · have a1 : decide (32 ≤ c.toNat) = true := decide_eq_true h1
    rw [if_pos (by omega), a1, Bool.true_and]
    by_cases h2 : c.toNat ≤ 126
    · have a2 : decide (c.toNat ≤ 126) = true := decide_eq_true h2
      rw [if_pos (by omega), a2, Bool.true_and]
      by_cases h3 : c.toNat = 34
      · rw [if_pos (by omega)]
        simp [h3]
      · have a3 : decide (c.toNat ≠ 34) = true := decide_eq_true h3
        rw [if_neg (by omega), a3, Bool.true_and]
        congr 1
        rw [Bool.eq_iff_iff, bne_iff_ne, decide_eq_true_iff]
        omega
    · have a2 : decide (c.toNat ≤ 126) = false := decide_eq_false h2
      rw [if_neg (by omega), a2, Bool.false_and]
  · have a1 : decide (32 ≤ c.toNat) = false := decide_eq_false h1
    rw [if_neg (by omega), a1, Bool.false_and]
theorem ev_stuff (s : ByteArray) (hs : s.size ≤ 4200) : ∀ (n i m : Nat), i + m ≤ s.size → s.size - (i + m) = n →
    Ev (fun k => swardref02_stuff.l0 k s i m) ((m + Lx.runL Lx.isTxt (s.data.toList.drop (i + m)) : Nat) : Int) := by
  intro n
  induction n with
  | zero =>
    intro i m hi hn
    have he : s.data.toList.drop (i + m) = [] := List.drop_of_length_le (by simp; omega)
    rw [he]
    have hw : wrap64 ((i : Int) + m) = ((i + m : Nat) : Int) := by unfold wrap64; omega
    have h1 : ¬ (((i + m : Nat) : Int) < (s.size : Int)) := by omega
    refine Ev.succ ?_
    simp only [swardref02_stuff.l0, hw, h1, if_false]
    exact Ev.now _
  | succ n ih =>
    intro i m hi hn
    have hlt : i + m < s.size := by omega
    have ih0 := ih i (m + 1) (by omega) (by omega)
    have hd := drop_cons s (i + m) hlt
    rw [hd]
    have hb := bt_nat s (i + m) hlt
    have hw : wrap64 ((i : Int) + m) = ((i + m : Nat) : Int) := by unfold wrap64; omega
    have hw1 : wrap64 ((m : Int) + 1) = ((m + 1 : Nat) : Int) := by unfold wrap64; omega
    have h1 : ((i + m : Nat) : Int) < (s.size : Int) := by omega
    have h2 : (0 : Int) ≤ ((i + m : Nat) : Int) := by omega
    refine Ev.succ ?_
    by_cases hl : Lx.isTxt s[i + m] = true
    · simp only [swardref02_stuff.l0, hw, h1, h2, if_true, hb, quoted_f, Option.bind_some, hl, hw1]
      simp only [Lx.runL, hl, if_true]
      rw [show m + (Lx.runL Lx.isTxt (s.data.toList.drop (i + m + 1)) + 1) = m + 1 + Lx.runL Lx.isTxt (s.data.toList.drop (i + (m + 1))) by rw [show i + (m + 1) = i + m + 1 by omega]; omega]
      exact ih0
    · simp only [swardref02_stuff.l0, hw, h1, h2, if_true, hb, quoted_f, Option.bind_some, hl, if_false, Bool.false_eq_true]
      simp only [Lx.runL, hl, if_false, Bool.false_eq_true, Nat.add_zero]
      exact Ev.now _
def memB (xs : List ByteArray) (s : ByteArray) : Bool := xs.any fun x => decide (x.data.toList = s.data.toList)
theorem ev_among (xs : List ByteArray) (hx : xs.length ≤ 4000) (s : ByteArray) : ∀ (n i : Nat), i ≤ xs.length → xs.length - i = n →
    Ev (fun k => swardref02_among.l0 k xs s i) (memB (xs.drop i) s) := by
  intro n
  induction n with
  | zero =>
    intro i hi hn
    have he : xs.drop i = [] := List.drop_of_length_le (by omega)
    have h1 : ¬ ((i : Int) < (xs.length : Int)) := by omega
    refine Ev.succ ?_
    simp only [swardref02_among.l0, h1, if_false, he]
    exact Ev.now _
  | succ n ih =>
    intro i hi hn
    have hlt : i < xs.length := by omega
    have ih0 := ih (i + 1) (by omega) (by omega)
    have hw := wrap_succ i (by omega)
    have h1 : (i : Int) < (xs.length : Int) := by omega
    have h2 : (0 : Int) ≤ (i : Int) := by omega
    have hr : rdOf ByteArray.empty xs (i : Int) = xs[i] := by simp [rdOf, List.getD_eq_getElem?_getD, List.getElem?_eq_getElem hlt]
    rw [List.drop_eq_getElem_cons hlt]
    unfold memB at ih0 ⊢
    rw [List.any_cons]
    refine Ev.succ ?_
    by_cases he : xs[i].toList = s.toList
    · have hes : xs[i].data.toList = s.data.toList := by rw [← bs_toList, he, bs_toList]
      simp only [swardref02_among.l0, h1, h2, if_true, hr, he]
      rw [decide_eq_true hes, Bool.true_or]
      exact Ev.now _
    · have hne : ¬ xs[i].data.toList = s.data.toList := fun h => he (by rw [bs_toList, bs_toList, h])
      simp only [swardref02_among.l0, h1, h2, if_true, hr, he, if_false, hw]
      rw [decide_eq_false hne, Bool.false_or]
      exact ih0
theorem memB_map (ls : List Lx.Bs) (s : ByteArray) : memB (ls.map bsOf) s = ls.contains s.data.toList := by
  unfold memB
  induction ls with
  | nil => rfl
  | cons l ls ih =>
    rw [List.map_cons, List.any_cons, ih, List.contains_cons]
    congr 1
    rw [Bool.eq_iff_iff, decide_eq_true_iff, beq_iff_eq]
    show l = _ ↔ _
    exact eq_comm
theorem keys_eq : swardref02_Keys.f = some (Lx.keyWords.map bsOf) := rfl
theorem signs_eq : swardref02_Signs.f = some (Lx.signWords.map bsOf) := rfl
theorem ev_Key (s : ByteArray) : Ev (fun k => swardref02_Key.f k s) (Lx.isKey s.data.toList) := by
  have ha := ev_among (Lx.keyWords.map bsOf) (by decide) s _ 0 (Nat.zero_le _) rfl
  rw [List.drop_zero, memB_map] at ha
  refine Ev.congr (fun k => ?_) ha
  unfold swardref02_Key.f
  rw [keys_eq]
  show Option.bind (swardref02_among.l0 k (Lx.keyWords.map bsOf) s 0) (fun t => some t) = swardref02_among.l0 k (Lx.keyWords.map bsOf) s 0
  cases swardref02_among.l0 k (Lx.keyWords.map bsOf) s 0 <;> rfl
theorem ext_eq (s : ByteArray) (a n b : Nat) (h : b = a + n) : s.extract a b = bsOf ((s.data.toList.drop a).take n) := by
  have := extract_eq s a n b h
  unfold strV at this
  injection this
end Go.Proofs.YtkijoeihkajlcaaDoor.PAll

set_option linter.unusedVariables false
set_option linter.unusedSimpArgs false
namespace Go.Proofs.YtkijoeihkajlcaaDoor.PAll
open Go.RowKit Go.Shelf
open Go.Proofs.YtkijoeihkajlcaaDoorW.PrintWords

/-- A token as the printed functions have it, and as the walk of package lex has it. -/
abbrev S := S37
def sT (x : S) : Tk := ⟨x.f0, x.f1, x.f2, x.f3⟩
theorem reads_sT {w : World} {A : Option Addr} {n : Nat} {xs : List S} (h : Kd.C k37 w A n xs) : Kd.C kTk w A n (xs.map sT) := by
  obtain ⟨h1, h2, h3⟩ := h
  refine ⟨by rw [List.length_map]; exact h1, h2, fun hn => ?_⟩
  obtain ⟨ad, e, hc⟩ := h3 hn
  refine ⟨ad, e, fun j p hj => ?_⟩
  rw [List.getElem?_map] at hj
  obtain ⟨x, hx, rfl⟩ := Option.map_eq_some_iff.1 hj
  exact hc j x hx
theorem int_beq (a b : Int) : (a == b) = decide (a = b) := by rw [Bool.eq_iff_iff, beq_iff_eq, decide_eq_true_iff]
theorem rd_S (xs : List S) (i : Nat) (h : i < xs.length) : rd_T37 xs (i : Int) = xs[i] := by
  simp [rd_T37, List.getD_eq_getElem?_getD, List.getElem?_eq_getElem h]
theorem toList_inj (a b : ByteArray) : a.toList = b.toList ↔ a = b := by
  rw [bs_toList, bs_toList]
  constructor
  · intro h
    apply ByteArray.ext
    exact Array.toList_inj.1 h
  · rintro rfl; rfl

/-! ### the same tokens -/
def likeB (a b : S) : Bool := decide (a.f0 = b.f0) && (decide (a.f1 = b.f1) && decide (a.f2 = b.f2))
theorem like_f (a b : S) : swardref02_Like.f a.f0 a.f1 a.f2 a.f3 b.f0 b.f1 b.f2 b.f3 = some (likeB a b) := by
  unfold swardref02_Like.f likeB
  by_cases h0 : a.f0 = b.f0
  · by_cases h1 : a.f1 = b.f1
    · rw [if_pos h0, if_pos ((toList_inj _ _).2 h1)]
      simp [h0, h1, int_beq]
    · rw [if_pos h0, if_neg (fun h => h1 ((toList_inj _ _).1 h))]
      simp [h1]
  · rw [if_neg h0]
    simp [h0]
def sameL : List S → List S → Bool
  | [], _ => true
  | x :: xs, y :: ys => likeB x y && sameL xs ys
  | _ :: _, [] => true
def sameB (xs ys : List S) : Bool := decide (xs.length = ys.length) && sameL xs ys
theorem sameL_drop (xs ys : List S) (i : Nat) (h : i < xs.length) (h2 : i < ys.length) : sameL (xs.drop i) (ys.drop i) = (likeB xs[i] ys[i] && sameL (xs.drop (i + 1)) (ys.drop (i + 1))) := by
  rw [List.drop_eq_getElem_cons h, List.drop_eq_getElem_cons h2]
  rfl
theorem ev_same_l (xs ys : List S) (hl : xs.length = ys.length) (hx : xs.length ≤ 1000000000000000) : ∀ (n i : Nat), i ≤ xs.length → xs.length - i = n → Ev (fun k => swardref02_Same.l0 k xs ys i) (sameL (xs.drop i) (ys.drop i)) := by
  intro n
  induction n with
  | zero =>
    intro i hi hn
    have h1 : ¬ ((i : Int) < (xs.length : Int)) := by omega
    have he : xs.drop i = [] := List.drop_of_length_le (by omega)
    rw [he]
    refine Ev.succ ?_
    simp only [swardref02_Same.l0, h1, if_false]
    exact Ev.now _
  | succ n ih =>
    intro i hi hn
    have hlt : i < xs.length := by omega
    have hlt2 : i < ys.length := by omega
    have ih0 := ih (i + 1) (by omega) (by omega)
    have h1 : (i : Int) < (xs.length : Int) := by omega
    have h3 : (i : Int) < (ys.length : Int) := by omega
    have h2 : (0 : Int) ≤ (i : Int) := Int.natCast_nonneg _
    have hw := wrap_succ i (by omega)
    rw [sameL_drop xs ys i hlt hlt2]
    refine Ev.succ ?_
    simp only [swardref02_Same.l0, h1, h2, h3, if_true, rd_S xs i hlt, rd_S ys i hlt2, like_f, Option.bind_some, hw]
    cases hb : likeB xs[i] ys[i]
    · simp only [Bool.false_eq_true, if_false, Bool.false_and]
      exact Ev.now _
    · simp only [if_true, Bool.true_and]
      exact ih0
theorem ev_Same (xs ys : List S) (hx : xs.length ≤ 1000000000000000) : Ev (fun k => swardref02_Same.f k xs ys) (sameB xs ys) := by
  unfold sameB
  by_cases hl : xs.length = ys.length
  · have h1 : (xs.length : Int) = (ys.length : Int) := by omega
    have := ev_same_l xs ys hl hx _ 0 (Nat.zero_le _) rfl
    rw [List.drop_zero, List.drop_zero] at this
    simp only [swardref02_Same.f, h1, if_true, decide_eq_true hl, Bool.true_and]
    exact this
  · have h1 : ¬ (xs.length : Int) = (ys.length : Int) := by omega
    simp only [swardref02_Same.f, h1, if_false, decide_eq_false hl, Bool.false_and]
    exact Ev.now _
theorem sameL_iff : ∀ (xs ys : List S), xs.length = ys.length → (sameL xs ys = true ↔ xs.map (fun x => (x.f0, x.f1, x.f2)) = ys.map (fun x => (x.f0, x.f1, x.f2)))
  | [], [], _ => by simp [sameL]
  | x :: xs, y :: ys, h => by
    have ih := sameL_iff xs ys (by simpa using h)
    simp only [sameL, Bool.and_eq_true, ih, List.map_cons, List.cons.injEq, Prod.mk.injEq, likeB, decide_eq_true_eq]
  | [], _ :: _, h => by simp at h
  | _ :: _, [], h => by simp at h
theorem sameB_iff (xs ys : List S) : sameB xs ys = true ↔ xs.map (fun x => (x.f0, x.f1, x.f2)) = ys.map (fun x => (x.f0, x.f1, x.f2)) := by
  unfold sameB
  rw [Bool.and_eq_true, decide_eq_true_iff]
  constructor
  · rintro ⟨h1, h2⟩
    exact (sameL_iff xs ys h1).1 h2
  · intro h
    have hl : xs.length = ys.length := by simpa using congrArg List.length h
    exact ⟨hl, (sameL_iff xs ys hl).2 h⟩
theorem ev_SameAll_self (xs : List S) (hx : xs.length ≤ 10000) : Ev (fun k => swardref02_SameAll.f k xs xs) true := by
  have h : ∀ (n i : Nat), i ≤ xs.length → xs.length - i = n → Ev (fun k => swardref02_SameAll.l0 k xs xs i) true := by
    intro n
    induction n with
    | zero =>
      intro i hi hn
      have h1 : ¬ ((i : Int) < (xs.length : Int)) := by omega
      refine Ev.succ ?_
      simp only [swardref02_SameAll.l0, h1, if_false]
      exact Ev.now _
    | succ n ih =>
      intro i hi hn
      have ih0 := ih (i + 1) (by omega) (by omega)
      have h1 : (i : Int) < (xs.length : Int) := by omega
      have h2 : (0 : Int) ≤ (i : Int) := Int.natCast_nonneg _
      have hw := wrap_succ i (by omega)
      refine Ev.succ ?_
      simp only [swardref02_SameAll.l0, h1, h2, if_true, hw]
      exact ih0
  have hs := ev_Same xs xs (by omega)
  rw [(sameB_iff xs xs).2 rfl] at hs
  unfold swardref02_SameAll.f
  refine Ev.bind (f := fun k (t : Bool) => if t = true then swardref02_SameAll.l0 k xs xs 0 else some false) hs ?_
  simp only [if_true]
  exact h _ 0 (Nat.zero_le _) rfl

/-! ### tokens that are as defined -/
theorem ev_lettered (s : ByteArray) (hs : s.size ≤ 4200) : ∀ (n i : Nat), i ≤ s.size → s.size - i = n → Ev (fun k => swardref02_lettered.l0 k s i) ((s.data.toList.drop i).all Lx.isLet) := by
  intro n
  induction n with
  | zero =>
    intro i hi hn
    have he : s.data.toList.drop i = [] := List.drop_of_length_le (by simp; omega)
    have h1 : ¬ ((i : Int) < (s.size : Int)) := by omega
    rw [he]
    refine Ev.succ ?_
    simp only [swardref02_lettered.l0, h1, if_false]
    exact Ev.now _
  | succ n ih =>
    intro i hi hn
    have hlt : i < s.size := by omega
    have ih0 := ih (i + 1) (by omega) (by omega)
    have hd := drop_cons s i hlt
    have hb := bt_nat s i hlt
    have hw := wrap_succ i (by omega)
    have h1 : (i : Int) < (s.size : Int) := by omega
    have h2 : (0 : Int) ≤ (i : Int) := by omega
    rw [hd, List.all_cons]
    refine Ev.succ ?_
    simp only [swardref02_lettered.l0, h1, h2, if_true, hb, letter_f, Option.bind_some, hw]
    cases hl : Lx.isLet s[i]
    · simp only [Bool.false_eq_true, if_false, Bool.false_and]
      exact Ev.now _
    · simp only [if_true, Bool.true_and]
      exact ih0
theorem ev_Name (s : ByteArray) : Ev (fun k => swardref02_Name.f k s) (Lx.isName s.data.toList) := by
  have hlen : s.data.toList.length = s.size := by simp
  by_cases h1 : 1 ≤ s.size
  · by_cases h8 : s.size ≤ 8
    · have hl := ev_lettered s (by omega) _ 0 (Nat.zero_le _) rfl
      rw [List.drop_zero] at hl
      have hk := ev_Key s
      have c1 : (s.size : Int) ≥ 1 := by omega
      have c2 : (s.size : Int) ≤ 8 := by omega
      have hn : Lx.isName s.data.toList = (s.data.toList.all Lx.isLet && !Lx.isKey s.data.toList) := by
        unfold Lx.isName
        rw [decide_eq_true (by omega), decide_eq_true (by omega), Bool.true_and, Bool.true_and]
      rw [hn]
      simp only [swardref02_Name.f, c1, c2, if_true]
      refine Ev.bind (f := fun k (t : Bool) => if t = true then ((swardref02_Key.f k s).bind fun t => some (!t)) else some false) hl ?_
      cases ha : s.data.toList.all Lx.isLet
      · simp only [Bool.false_eq_true, if_false, Bool.false_and]
        exact Ev.now _
      · simp only [if_true, Bool.true_and]
        exact Ev.bind (f := fun k (t : Bool) => some (!t)) hk (Ev.now _)
    · have c1 : (s.size : Int) ≥ 1 := by omega
      have c2 : ¬ (s.size : Int) ≤ 8 := by omega
      have hn : Lx.isName s.data.toList = false := by
        unfold Lx.isName
        rw [decide_eq_false (p := s.data.toList.length ≤ 8) (by omega), Bool.false_and, Bool.and_false]
      rw [hn]
      simp only [swardref02_Name.f, c1, c2, if_true, if_false]
      exact Ev.now _
  · have c1 : ¬ (s.size : Int) ≥ 1 := by omega
    have hn : Lx.isName s.data.toList = false := by
      unfold Lx.isName
      rw [decide_eq_false (p := 1 ≤ s.data.toList.length) (by omega), Bool.false_and]
    rw [hn]
    simp only [swardref02_Name.f, c1, if_false]
    exact Ev.now _
theorem run_all (p : UInt8 → Bool) : ∀ l : Lx.Bs, decide ((Lx.runL p l : Int) = (l.length : Int)) = l.all p
  | [] => rfl
  | c :: l => by
    have ih := run_all p l
    have hle := Lx.runL_le p l
    rw [List.all_cons]
    cases hc : p c
    · rw [Bool.false_and]
      refine decide_eq_false ?_
      simp [Lx.runL, hc]
      omega
    · rw [Bool.true_and, ← ih, decide_eq_decide]
      simp [Lx.runL, hc]
def tokenB (x : S) : Bool := (Lx.pieceOf (sT x)).isSome
theorem ev_tok0 (x : S) (hx : ¬ (x.f3 < 0 ∨ 4000 < x.f3 ∨ (x.f0 ≠ 3 ∧ x.f2 ≠ 0))) : Ev (fun k => swardref02_Token.j0 k false x.f0 x.f1 x.f2 x.f3) (tokenB x) := by
  obtain ⟨k, s, n, a⟩ := x
  unfold tokenB Lx.pieceOf sT
  simp only at hx ⊢
  rw [if_neg hx]
  refine Ev.succ ?_
  simp only [swardref02_Token.j0, Bool.false_eq_true, if_false]
  by_cases h1 : k = 1
  · subst h1
    simp only [if_true]
    have := ev_Name s
    refine Ev.bind (f := fun k (t : Bool) => some t) this ?_
    cases Lx.isName s.data.toList <;> exact Ev.now _
  · by_cases h2 : k = 2
    · subst h2
      have e1 : ¬ ((2 : Int) = 1) := by omega
      simp only [e1, if_true, if_false]
      refine Ev.bind (f := fun k (t : Bool) => some t) (ev_Key s) ?_
      cases Lx.isKey s.data.toList <;> exact Ev.now _
    · by_cases h3 : k = 3
      · subst h3
        have e1 : ¬ ((3 : Int) = 1) := by omega
        have e2 : ¬ ((3 : Int) = 2) := by omega
        simp only [e1, e2, if_true, if_false]
        by_cases hs : s = ⟨#[]⟩
        · have hs2 : s.toList = [] := by rw [hs, bs_toList]
          by_cases hn1 : n ≥ -1000000000
          · by_cases hn2 : n ≤ 1000000000
            · rw [show (if s = (⟨#[]⟩ : ByteArray) ∧ -1000000000 ≤ n ∧ n ≤ 1000000000 then some (Lx.Piece.num n) else none).isSome = true by rw [if_pos ⟨hs, hn1, hn2⟩]; rfl]
              simp only [hs2, hn1, hn2, if_true, decide_true]
              exact Ev.now _
            · rw [show (if s = (⟨#[]⟩ : ByteArray) ∧ -1000000000 ≤ n ∧ n ≤ 1000000000 then some (Lx.Piece.num n) else none).isSome = false by rw [if_neg (by rintro ⟨_, _, h⟩; exact hn2 h)]; rfl]
              simp only [hs2, hn1, hn2, if_true, decide_false]
              exact Ev.now _
          · rw [show (if s = (⟨#[]⟩ : ByteArray) ∧ -1000000000 ≤ n ∧ n ≤ 1000000000 then some (Lx.Piece.num n) else none).isSome = false by rw [if_neg (by rintro ⟨_, h, _⟩; exact hn1 h)]; rfl]
            simp only [hs2, hn1, if_true, if_false]
            exact Ev.now _
        · have hs2 : ¬ s.toList = [] := by
            intro h
            exact hs ((toList_inj s ⟨#[]⟩).1 (by rw [h, bs_toList]))
          rw [show (if s = (⟨#[]⟩ : ByteArray) ∧ -1000000000 ≤ n ∧ n ≤ 1000000000 then some (Lx.Piece.num n) else none).isSome = false by rw [if_neg (by rintro ⟨h, _⟩; exact hs h)]; rfl]
          simp only [hs2, if_false]
          exact Ev.now _
      · by_cases h4 : k = 4
        · subst h4
          have e1 : ¬ ((4 : Int) = 1) := by omega
          have e2 : ¬ ((4 : Int) = 2) := by omega
          have e3 : ¬ ((4 : Int) = 3) := by omega
          simp only [e1, e2, e3, if_true, if_false]
          by_cases h20 : s.size ≤ 20
          · have c20 : (s.size : Int) ≤ 20 := by omega
            have hst := ev_stuff s (by omega) _ 0 0 (Nat.zero_le _) rfl
            rw [Nat.zero_add, Nat.zero_add, List.drop_zero] at hst
            have hra := run_all Lx.isTxt s.data.toList
            have hlen : s.data.toList.length = s.size := by simp
            rw [hlen] at hra
            simp only [c20, if_true]
            refine Ev.bind (f := fun k (t : Int) => some (t == (s.size : Int))) hst ?_
            rw [int_beq, hra]
            cases ha : s.data.toList.all Lx.isTxt
            · rw [show (if s.size ≤ 20 ∧ false = true then some (Lx.Piece.str s.data.toList) else none).isSome = false by rw [if_neg (by rintro ⟨_, h⟩; cases h)]; rfl]
              exact Ev.now _
            · rw [show (if s.size ≤ 20 ∧ true = true then some (Lx.Piece.str s.data.toList) else none).isSome = true by rw [if_pos ⟨h20, rfl⟩]; rfl]
              exact Ev.now _
          · have c20 : ¬ (s.size : Int) ≤ 20 := by omega
            rw [show (if s.size ≤ 20 ∧ s.data.toList.all Lx.isTxt = true then some (Lx.Piece.str s.data.toList) else none).isSome = false by rw [if_neg (by rintro ⟨h, _⟩; exact h20 h)]; rfl]
            simp only [c20, if_false]
            exact Ev.now _
        · by_cases h5 : k = 5
          · subst h5
            have e1 : ¬ ((5 : Int) = 1) := by omega
            have e2 : ¬ ((5 : Int) = 2) := by omega
            have e3 : ¬ ((5 : Int) = 3) := by omega
            have e4 : ¬ ((5 : Int) = 4) := by omega
            have ha := ev_among (Lx.signWords.map bsOf) (by decide) s _ 0 (Nat.zero_le _) rfl
            rw [List.drop_zero, memB_map] at ha
            simp only [e1, e2, e3, e4, if_true, if_false, signs_eq, Option.bind_some]
            refine Ev.bind (f := fun k (t : Bool) => some t) (a := Lx.signWords.contains s.data.toList) ?_ ?_
            · exact Ev.congr (fun k => rfl) ha
            · cases hc : Lx.signWords.contains s.data.toList
              · rw [show (if s.data.toList ∈ Lx.signWords then some (Lx.Piece.sgn s.data.toList) else none).isSome = false by rw [if_neg (by intro h; rw [← List.contains_iff_mem, hc] at h; cases h)]; rfl]
                exact Ev.now _
              · rw [show (if s.data.toList ∈ Lx.signWords then some (Lx.Piece.sgn s.data.toList) else none).isSome = true by rw [if_pos (List.contains_iff_mem.1 hc)]; rfl]
                exact Ev.now _
          · simp only [h1, h2, h3, h4, h5, if_false, Option.isSome_none]
            exact Ev.now _
theorem ev_tok1 (x : S) : Ev (fun k => swardref02_Token.j0 k true x.f0 x.f1 x.f2 x.f3) false := by
  refine Ev.succ ?_
  simp only [swardref02_Token.j0, if_true]
  exact Ev.now _
theorem ev_Token (x : S) : Ev (fun k => swardref02_Token.f k x.f0 x.f1 x.f2 x.f3) (tokenB x) := by
  by_cases hx : x.f3 < 0 ∨ 4000 < x.f3 ∨ (x.f0 ≠ 3 ∧ x.f2 ≠ 0)
  · have hf : tokenB x = false := by
      unfold tokenB Lx.pieceOf
      rw [if_pos (show (sT x).f3 < 0 ∨ 4000 < (sT x).f3 ∨ ((sT x).f0 ≠ 3 ∧ (sT x).f2 ≠ 0) from hx)]
      rfl
    rw [hf]
    unfold swardref02_Token.f
    by_cases h1 : x.f3 < 0
    · simp only [h1, if_true]
      exact ev_tok1 x
    · by_cases h2 : x.f3 > 4000
      · simp only [h1, h2, if_true, if_false]
        exact ev_tok1 x
      · have h3 : ¬ x.f0 = 3 := by omega
        have h4 : (x.f2 != 0) = true := by rw [bne_iff_ne]; omega
        simp only [h1, h2, h3, h4, if_false]
        exact ev_tok1 x
  · have h1 : ¬ x.f3 < 0 := by omega
    have h2 : ¬ x.f3 > 4000 := by omega
    unfold swardref02_Token.f
    by_cases h3 : x.f0 = 3
    · simp only [h1, h2, h3, if_true, if_false]
      rw [← h3]
      exact ev_tok0 x hx
    · have h4 : (x.f2 != 0) = false := by
        have : x.f2 = 0 := by omega
        rw [this]; rfl
      simp only [h1, h2, h3, h4, if_false]
      exact ev_tok0 x hx
theorem ev_All_l (xs : List S) (hx : xs.length ≤ 1000000000000000) : ∀ (n i : Nat), i ≤ xs.length → xs.length - i = n → Ev (fun k => swardref02_All.l0 k xs i) ((xs.drop i).all tokenB) := by
  intro n
  induction n with
  | zero =>
    intro i hi hn
    have h1 : ¬ ((i : Int) < (xs.length : Int)) := by omega
    have he : xs.drop i = [] := List.drop_of_length_le (by omega)
    rw [he]
    refine Ev.succ ?_
    simp only [swardref02_All.l0, h1, if_false]
    exact Ev.now _
  | succ n ih =>
    intro i hi hn
    have hlt : i < xs.length := by omega
    have ih0 := ih (i + 1) (by omega) (by omega)
    have h1 : (i : Int) < (xs.length : Int) := by omega
    have h2 : (0 : Int) ≤ (i : Int) := Int.natCast_nonneg _
    have hw := wrap_succ i (by omega)
    rw [List.drop_eq_getElem_cons hlt, List.all_cons]
    refine Ev.succ ?_
    simp only [swardref02_All.l0, h1, h2, if_true, rd_S xs i hlt, hw]
    refine Ev.bind (f := fun k (t : Bool) => if t = true then swardref02_All.l0 k xs ((i + 1 : Nat) : Int) else some false) (ev_Token xs[i]) ?_
    cases hb : tokenB xs[i]
    · simp only [Bool.false_eq_true, if_false, Bool.false_and]
      exact Ev.now _
    · simp only [if_true, Bool.true_and]
      exact ih0
theorem ev_All (xs : List S) (hx : xs.length ≤ 1000000000000000) : Ev (fun k => swardref02_All.f k xs) (xs.all tokenB) := by
  have := ev_All_l xs hx _ 0 (Nat.zero_le _) rfl
  rw [List.drop_zero] at this
  exact this
def fewB (xs : List S) : Bool := (xs.take 61).all (fun x => decide (x.f1.size ≤ 40)) && decide (xs.length ≤ 60)
theorem ev_few_l (xs : List S) : ∀ (n i : Nat), i ≤ 61 → 61 - i = n → Ev (fun k => swardlaw02_few.l0 k xs i) (((xs.take 61).drop i).all (fun x => decide (x.f1.size ≤ 40)) && decide (xs.length ≤ 60)) := by
  have hz : decide ((xs.length : Int) ≤ 60) = decide (xs.length ≤ 60) := by rw [decide_eq_decide]; omega
  intro n
  induction n with
  | zero =>
    intro i hi hn
    have he : (xs.take 61).drop i = [] := List.drop_of_length_le (by rw [List.length_take]; omega)
    have h6 : decide ((i : Int) < 61) = false := decide_eq_false (by omega)
    rw [he, List.all_nil, Bool.true_and]
    refine Ev.succ ?_
    simp only [swardlaw02_few.l0, h6, ite_self]
    refine Ev.succ ?_
    simp only [swardlaw02_few.j1, Bool.false_eq_true, if_false, hz]
    exact Ev.now _
  | succ n ih =>
    intro i hi hn
    have ih0 := ih (i + 1) (by omega) (by omega)
    by_cases hlt : i < xs.length
    · have h1 : (i : Int) < (xs.length : Int) := by omega
      have h2 : (0 : Int) ≤ (i : Int) := Int.natCast_nonneg _
      have h6 : decide ((i : Int) < 61) = true := decide_eq_true (by omega)
      have hw := wrap_succ i (by omega)
      have hlt2 : i < (xs.take 61).length := by rw [List.length_take]; omega
      have hg : (xs.take 61)[i] = xs[i] := List.getElem_take
      rw [List.drop_eq_getElem_cons hlt2, List.all_cons, hg]
      refine Ev.succ ?_
      simp only [swardlaw02_few.l0, h1, h6, if_true]
      refine Ev.succ ?_
      simp only [swardlaw02_few.j1, h1, h2, if_true, rd_S xs i hlt, hw]
      by_cases h40 : xs[i].f1.size ≤ 40
      · have c40 : ¬ ((xs[i].f1.size : Int) > 40) := by omega
        simp only [c40, if_false, decide_eq_true h40, Bool.true_and]
        exact ih0
      · have c40 : (xs[i].f1.size : Int) > 40 := by omega
        simp only [c40, if_true, decide_eq_false h40, Bool.false_and]
        exact Ev.now _
    · have h1 : ¬ ((i : Int) < (xs.length : Int)) := by omega
      have he : (xs.take 61).drop i = [] := List.drop_of_length_le (by rw [List.length_take]; omega)
      rw [he, List.all_nil, Bool.true_and]
      refine Ev.succ ?_
      simp only [swardlaw02_few.l0, h1, if_false]
      refine Ev.succ ?_
      simp only [swardlaw02_few.j1, Bool.false_eq_true, if_false, hz]
      exact Ev.now _
theorem ev_few (xs : List S) : Ev (fun k => swardlaw02_few.f k xs) (fewB xs) := by
  have := ev_few_l xs _ 0 (Nat.zero_le _) rfl
  rw [List.drop_zero] at this
  exact this
theorem fewB_iff (xs : List S) (h : fewB xs = true) : xs.length ≤ 60 ∧ ∀ x ∈ xs, x.f1.size ≤ 40 := by
  unfold fewB at h
  rw [Bool.and_eq_true, decide_eq_true_iff, List.all_eq_true] at h
  obtain ⟨h1, h2⟩ := h
  rw [List.take_of_length_le (by omega)] at h1
  exact ⟨h2, fun x hx => by simpa using h1 x hx⟩
end Go.Proofs.YtkijoeihkajlcaaDoor.PAll

set_option linter.unusedVariables false
set_option linter.unusedSimpArgs false
namespace Go.Proofs.YtkijoeihkajlcaaDoor.PAll
open Go.RowKit Go.Shelf
open Go.Proofs.YtkijoeihkajlcaaDoorW.PrintWords

theorem sameT_map : ∀ (xs ys : List Tk), xs.map (fun t => (t.f0, t.f1, t.f2)) = ys.map (fun t => (t.f0, t.f1, t.f2)) → sameT xs ys = true := by
  have h : ∀ (xs ys : List Tk), xs.map (fun t => (t.f0, t.f1, t.f2)) = ys.map (fun t => (t.f0, t.f1, t.f2)) → sameTL xs ys = true := by
    intro xs
    induction xs with
    | nil => intro ys _; rfl
    | cons x xs ih =>
      intro ys hy
      cases ys with
      | nil => rfl
      | cons y ys =>
        simp only [List.map_cons, List.cons.injEq, Prod.mk.injEq] at hy
        simp only [sameTL, ih ys hy.2, Bool.and_true]
        simp [likeT, hy.1]
  intro xs ys hy
  unfold sameT
  rw [h xs ys hy, Bool.and_true, decide_eq_true_iff]
  have := congrArg List.length hy
  simpa using this
theorem placed_len : ∀ (qs : List Lx.Piece) (a : Nat), (Lx.placed a qs).length = qs.length
  | [], _ => rfl
  | q :: qs, a => by simp [Lx.placed, placed_len qs]
theorem sum_le : ∀ (qs : List Lx.Piece), (∀ q ∈ qs, Lx.Good q) → (qs.map fun q => (Lx.spelled q).length + 1).sum ≤ 23 * qs.length
  | [], _ => by simp
  | q :: qs, h => by
    have ih := sum_le qs (fun x hx => h x (by simp [hx]))
    have := Lx.good_len q (h q (by simp))
    simp only [List.map_cons, List.sum_cons, List.length_cons]
    omega
theorem joined_sum : ∀ (qs : List Lx.Piece), (Lx.joined (qs.map Lx.spelled)).length ≤ (qs.map fun q => (Lx.spelled q).length + 1).sum
  | [] => by simp [Lx.joined, Lib.join, List.intercalate]
  | [q] => by simp [Lx.join_one]
  | q :: r :: qs => by
    have ih := joined_sum (r :: qs)
    simp only [List.map_cons, List.sum_cons] at ih ⊢
    rw [Lx.join_cons, List.length_append, List.length_cons]
    omega
theorem word_at {ts : List Tk} {qs : List Lx.Piece} (h : ts.map (fun t => Lx.word t) = qs.map (fun q => (Lx.spelled q, 0))) (i : Nat) (hi : i < ts.length) (hi2 : i < qs.length) : Lx.word (ts.getD i zTk) = (Lx.spelled qs[i], 0) := by
  have := congrArg (fun l => l[i]?) h
  simp only [List.getElem?_map, List.getElem?_eq_getElem hi, List.getElem?_eq_getElem hi2, Option.map_some, Option.some.injEq] at this
  rw [List.getD_eq_getElem?_getD, List.getElem?_eq_getElem hi]
  exact this
theorem placed_at {qs : List Lx.Piece} {at_ i : Nat} (h : Lx.placed at_ (qs.drop i) = (Lx.placed 0 qs).drop i) (hi : i < qs.length) :
    ((Lx.placed 0 qs).map tokS).getD i zTk = tokS (at_, qs[i]) ∧ Lx.placed (at_ + (Lx.spelled qs[i]).length + 1) (qs.drop (i + 1)) = (Lx.placed 0 qs).drop (i + 1) := by
  have hl : i < (Lx.placed 0 qs).length := by rw [placed_len]; exact hi
  rw [List.drop_eq_getElem_cons hi, List.drop_eq_getElem_cons hl] at h
  simp only [Lx.placed, List.cons.injEq] at h
  refine ⟨?_, h.2⟩
  rw [List.getD_eq_getElem?_getD, List.getElem?_map, List.getElem?_eq_getElem hl, ← h.1]
  rfl

set_option maxRecDepth 100000 in
set_option maxHeartbeats 8000000 in
theorem LexBack_law (A : Option Addr) (c : Nat) (xs : List S) (w : World) (hL : Laid w) (hr : Kd.C k37 w A xs.length xs) (hc : xs.length ≤ c) :
    Calls Tryd.prog 8 #[.slice A xs.length c] w fun e w' => e = .returned (.bool true) ∧ Below w.heap.size w w' := by
  have hkn := Lib.hid (fun w' (h : Laid w') => known_calls w' h)
  obtain ⟨kf, hfew⟩ := (ev_few xs).rounds
  have hfc := Lib.hid (swardlaw02_few.calls kf A c xs _ w hr hc hfew)
  clear hfew
  by_cases c1 : fewB xs = true
  · obtain ⟨hn60, hs40⟩ := fewB_iff xs c1
    rw [c1] at hfc
    obtain ⟨ka, hall⟩ := (ev_All xs (by omega)).rounds
    have hac := Lib.hid (fun W (hW : Kd.C k37 W A xs.length xs) => swardref02_All.calls ka A c xs _ W hW hc hall)
    clear hall
    by_cases c2 : xs.all tokenB = true
    · rw [c2] at hac
      obtain ⟨ts, hts⟩ : ∃ ts, ts = xs.map sT := ⟨_, rfl⟩
      have htl : ts.length = xs.length := by rw [hts, List.length_map]
      obtain ⟨qs, hq1, hq2, hq3, hq4, hq5, hq6⟩ := Lx.words_some ts (by
        intro t ht
        rw [hts] at ht
        obtain ⟨x, hx, rfl⟩ := List.mem_map.1 ht
        exact List.all_eq_true.1 c2 x hx)
      have hsz : ∀ t ∈ ts, t.f1.size ≤ 4000 := by
        intro t ht
        rw [hts] at ht
        obtain ⟨x, hx, rfl⟩ := List.mem_map.1 ht
        have := hs40 x hx
        show x.f1.size ≤ 4000
        omega
      have hsum := sum_le qs hq2
      have hjs := joined_sum qs
      have hback := Lx.readAll_back qs hq2
      obtain ⟨s, hs⟩ : ∃ s, s = bsOf (Lx.joined (qs.map Lx.spelled)) := ⟨_, rfl⟩
      have hss : s.size ≤ 1380 := by rw [hs, bsOf_size]; omega
      have hsd : s.data.toList = Lx.joined (qs.map Lx.spelled) := by rw [hs]; simp [bsOf]
      have htext : Lx.text ts = (Lx.joined (qs.map Lx.spelled), 0) := by unfold Lx.text; rw [hq3]
      have hsv : strV (Lx.joined (qs.map Lx.spelled)) = .string s := by rw [hs]; rfl
      have hT := Lib.hid (fun W hW => Tokens_calls s W hW (Lx.placed 0 qs) 0 (by unfold Lx.toks; rw [hsd, hback, if_neg (by rw [← hsd]; simp; omega)]))
      have htxt : ∀ W, Laid W → Kd.C kTk W A ts.length ts → Calls Tryd.prog 28 #[.slice A ts.length c] W fun e w' => e = .returned (.tuple #[.string s, .int .i64 0]) ∧ Below W.heap.size W w' := by
        intro W hW hC
        have := Text_calls A c ts W hW hC (by omega) (by omega) hsz (by omega)
        rw [htext, hsv] at this
        exact this
      replace htxt := Lib.hid htxt
      obtain ⟨ys, hys⟩ : ∃ ys, ys = (Lx.placed 0 qs).map tokS := ⟨_, rfl⟩
      have hyl : ys.length = ts.length := by rw [hys, List.length_map, placed_len, hq1]
      rw [← hys] at hT
      have hsame : sameT ts ys = true := by
        refine sameT_map ts ys ?_
        rw [hq5, hys, List.map_map]
        have : ((fun t : Tk => (t.f0, t.f1, t.f2)) ∘ tokS) = (fun q : Lx.Piece => (tokK q, tokT q, tokN q)) ∘ Prod.snd := rfl
        rw [this, ← List.map_map, Lx.placed_map]
      have hwords := Lib.hid hq6
      have hgood := Lib.hid hq2
      have hszh := Lib.hid hsz
      replace hys := Lib.hid hys
      replace hyl := Lib.hid hyl
      replace hsame := Lib.hid hsame
      have hql := Lib.hid hq1
      have hr0 : ∀ W, Kd.C k37 W A xs.length xs → Kd.C kTk W A ts.length ts := by
        intro W hW
        rw [hts, List.length_map]
        exact reads_sT hW
      replace hr0 := Lib.hid hr0
      have hrh := Lib.hid hr
      rw [← htl]
      rw [← htl] at hfc hc hn60
      have hac2 := Lib.hid (fun W (hW : Kd.C k37 W A xs.length xs) => (by have := hac.out W hW; rwa [← htl] at this : Calls Tryd.prog 27 #[.slice A ts.length c] W fun e w' => e = .returned (.bool true) ∧ Below W.heap.size W w'))
      clear hac hq1 hq2 hq3 hq4 hq5 hq6 hsz hsum hjs hback hs hsd htext hsv hr hts htl hs40 c1 c2
      go_enter Tryd.func8, Tryd.ntmps8
      go_wp2_with fail
      refine hfc.out.mono ?_
      rintro e w1 ⟨rfl, hd⟩
      have hB1 := Lib.hid hd.below
      replace hrh := Lib.hid (Kd.C_below hrh.out hd.below)
      clear hd
      go_wp2_with fail
      refine (hac2.out _ hrh.out).mono ?_
      rintro e w2 ⟨rfl, hb⟩
      have hB2 := Lib.hid (Go.Proofs.YtkijoeihkajlcaaDoor.below_then hB1.out hb (Nat.le_refl _))
      have hr2 := Lib.hid (hr0.out _ (Kd.C_below hrh.out hb))
      clear hb hrh hac2
      go_wp2_with fail
      refine (htxt.out _ (hL.below hB2.out) hr2.out).mono ?_
      rintro e w3 ⟨rfl, hb⟩
      have hB3 := Lib.hid (Go.Proofs.YtkijoeihkajlcaaDoor.below_then hB2.out hb (Nat.le_refl _))
      have hr3 := Lib.hid (Kd.C_below hr2.out hb)
      clear hb hr2
      go_wp2_with fail
      refine (hT.out _ (hL.below hB3.out)).mono ?_
      rintro e w4 ⟨⟨tk, rfl, ho⟩, hb⟩
      have hB4 := Lib.hid (Go.Proofs.YtkijoeihkajlcaaDoor.below_then hB3.out hb (Nat.le_refl _))
      have hr4 := Lib.hid (Kd.C_below hr3.out hb)
      obtain ⟨A2, c2, rfl, hc2, hy4⟩ := Kd.R_reads ho.R
      replace hy4 := Lib.hid hy4
      clear hb ho hr3
      have hS := Lib.hid (Same_calls A c ts A2 c2 ys w4 hr4.out hy4.out (by omega) (by have := hyl.out; omega))
      have hyb : ((ys.length : Int) != (ts.length : Int)) = false := by rw [bne_eq_false_iff_eq]; have := hyl.out; omega
      go_wp2_with fail
      refine hS.out.mono ?_
      rintro e w5 ⟨rfl, hb⟩
      have hB5 := Lib.hid (Go.Proofs.YtkijoeihkajlcaaDoor.below_then hB4.out hb (Nat.le_refl _))
      replace hr4 := Lib.hid (Kd.C_below hr4.out hb)
      replace hy4 := Lib.hid (Kd.C_below hy4.out hb)
      rw [hsame.out]
      clear hb hS
      go_wp2
      go_loopg [7, 8] ys.length (fun g v7 v8 wr => ∃ (at_ i : Nat), v7 = .int .i64 at_ ∧ v8 = .int .i64 i ∧ i ≤ ys.length ∧ Hid (g + i = ys.length) ∧ at_ ≤ 30 * i ∧ Hid (Below w.heap.size w wr) ∧ Hid (Below w5.heap.size w5 wr) ∧ Hid (Lx.placed at_ (qs.drop i) = (Lx.placed 0 qs).drop i))
      case atStart => exact ⟨0, 0, rfl, rfl, Nat.zero_le _, Lib.hid rfl, Nat.le_refl _, hB5, Lib.hid (Below.refl _ _), Lib.hid rfl⟩
      case round =>
        obtain ⟨at_, i, rfl, rfl, hi, hg, hat, hB, hBr, hpl⟩ := hrel
        by_cases hlt : i < ys.length
        · have hit : i < ts.length := by have := hyl.out; omega
          have hiq : i < qs.length := by have := hql.out; omega
          have hi60 : i ≤ 60 := by omega
          obtain ⟨hp1, hp2⟩ := placed_at hpl.out hiq
          rw [← hys.out] at hp1
          have hgl := Lx.good_len qs[i] (hgood.out _ (List.getElem_mem hiq))
          have hmem : ts.getD i zTk ∈ ts := by
            rw [List.getD_eq_getElem?_getD, List.getElem?_eq_getElem hit]
            exact List.getElem_mem hit
          have hwc := fun W hW => Word_calls (ts.getD i zTk) (hszh.out _ hmem) W hW
          rw [word_at hwords.out i hit hiq] at hwc
          obtain ⟨b, hb⟩ : ∃ b, b = bsOf (Lx.spelled qs[i]) := ⟨_, rfl⟩
          have hbv : strV (Lx.spelled qs[i]) = .string b := by rw [hb]; rfl
          have hbz : b.size = (Lx.spelled qs[i]).length := by rw [hb, bsOf_size]
          simp only [hbv] at hwc
          rw [← hbz] at hgl hp2
          obtain ⟨ad, rfl, d0, d1, d2, d3⟩ := at_Tk (Kd.C_below hr4.out hBr.out) i (by omega) (by omega)
          simp only [Int.toNat_natCast] at d0 d1 d2 d3
          obtain ⟨⟨k, T, N, f3⟩, htk⟩ : ∃ t, t = ts.getD i zTk := ⟨_, rfl⟩
          rw [← htk] at d0 d1 d2 d3 hwc
          simp only [tokCs] at d0 d1 d2 d3 hwc
          replace hwc := Lib.hid hwc
          replace hp1 := Lib.hid hp1
          replace hp2 := Lib.hid hp2
          clear hmem htk hb hbv hbz
          go_wp2_with fail
          refine (hwc.out _ (hL.below hB.out)).mono ?_
          rintro e w6 ⟨rfl, hb⟩
          have hB6 := Lib.hid (Go.Proofs.YtkijoeihkajlcaaDoor.below_then hB.out hb (Nat.le_refl _))
          have hBr6 := Lib.hid (Go.Proofs.YtkijoeihkajlcaaDoor.below_then hBr.out hb (Nat.le_refl _))
          clear hb d0 d1 d2 d3
          obtain ⟨ad2, rfl, _, _, _, d3⟩ := at_Tk (Kd.C_below hy4.out hBr6.out) i (by omega) (by omega)
          simp only [Int.toNat_natCast] at d3
          rw [hp1.out] at d3
          simp only [tokS] at d3
          clear hwc
          have ne1 : ((at_ : Int) != (at_ : Int)) = false := bne_self_eq_false _
          have bz : ¬ (40 < b.size) := by omega
          have bzb : decide (40 < b.size) = false := decide_eq_false bz
          go_wp2
          go_roundg (ys.length - (i + 1))
          case measure => have := hg.out; omega
          case rel => exact ⟨at_ + b.size + 1, i + 1, by go_num, by go_num, by omega, Lib.hid (by omega), by omega, hB6, hBr6, hp2⟩
        · go_wp2_with fail
          refine (hkn.out _ (hL.below hB.out)).mono ?_
          rintro e w6 ⟨rfl, hb⟩
          have hB6 := Lib.hid (Go.Proofs.YtkijoeihkajlcaaDoor.below_then hB.out hb (Nat.le_refl _))
          clear hb
          go_wp2
          go_ret
          exact ⟨rfl, hB6.out⟩
    · have c2' : xs.all tokenB = false := by simpa using c2
      rw [c2'] at hac
      have hrh := Lib.hid hr
      clear hr c1 c2 c2' hs40
      go_enter Tryd.func8, Tryd.ntmps8
      go_wp2_with fail
      refine hfc.out.mono ?_
      rintro e w1 ⟨rfl, hd⟩
      have hB1 := Lib.hid hd.below
      replace hrh := Lib.hid (Kd.C_below hrh.out hd.below)
      clear hd
      go_wp2_with fail
      refine (hac.out _ hrh.out).mono ?_
      rintro e w2 ⟨rfl, hb⟩
      have hB2 := Lib.hid (Go.Proofs.YtkijoeihkajlcaaDoor.below_then hB1.out hb (Nat.le_refl _))
      clear hb
      go_wp2_with fail
      refine (hkn.out _ (hL.below hB2.out)).mono ?_
      rintro e w3 ⟨rfl, hb⟩
      have hB3 := Lib.hid (Go.Proofs.YtkijoeihkajlcaaDoor.below_then hB2.out hb (Nat.le_refl _))
      clear hb
      go_wp2
      go_ret
      exact ⟨rfl, hB3.out⟩
  · have c1' : fewB xs = false := by simpa using c1
    rw [c1'] at hfc
    clear hr c1 c1'
    go_enter Tryd.func8, Tryd.ntmps8
    go_wp2_with fail
    refine hfc.out.mono ?_
    rintro e w1 ⟨rfl, hd⟩
    have hB1 := Lib.hid hd.below
    clear hd
    go_wp2_with fail
    refine (hkn.out _ (hL.below hB1.out)).mono ?_
    rintro e w2 ⟨rfl, hb⟩
    have hB2 := Lib.hid (Go.Proofs.YtkijoeihkajlcaaDoor.below_then hB1.out hb (Nat.le_refl _))
    clear hb
    go_wp2
    go_ret
    exact ⟨rfl, hB2.out⟩
end Go.Proofs.YtkijoeihkajlcaaDoor.PAll

set_option linter.unusedVariables false
set_option linter.unusedSimpArgs false
namespace Go.Proofs.YtkijoeihkajlcaaDoor
open Go.ChangeShapes Go.WideShapes Go.ChangeAt Go.RowKit Go.ChangeMaps

theorem ownK : ownKnob Tryd.prog.godebug = none := by kernel_rfl
def laidL : List (String × DataW Unit) := [("math/bits.deBruijn32tab", Rows.laid_math_bits_deBruijn32tab), ("math/bits.deBruijn64tab", Rows.laid_math_bits_deBruijn64tab), ("internal/strconv.uint64pow10", Rows.laid_internal_strconv_uint64pow10), ("unicode.White_Space", Rows.laid_unicode_White_Space), ("strings.asciiSpace", Rows.laid_strings_asciiSpace)]
theorem laid_of_met {W : World} (h : laidMetH Tryd.prog laidL W) : Laid W := by
  rw [MakeChecks.laidMetH_plain _ _ _ (by kernel_rfl)] at h
  have h3 := (show laidMet Tryd.prog [("internal/strconv.uint64pow10", Rows.laid_internal_strconv_uint64pow10), ("unicode.White_Space", Rows.laid_unicode_White_Space), ("strings.asciiSpace", Rows.laid_strings_asciiSpace)] W from h.tail.tail)
  have h5 := (show laidMet Tryd.prog [("strings.asciiSpace", Rows.laid_strings_asciiSpace)] W from h3.tail.tail)
  rw [show (Rows.laid_strings_asciiSpace : DataW Unit) = Lib.tabData .u8 Lib.asciiSpaceTab by kernel_rfl] at h5
  rw [show (Rows.laid_internal_strconv_uint64pow10 : DataW Unit) = Lib.tabData .u64 Lib.pow10Tab by kernel_rfl] at h3
  refine ⟨?_, ?_⟩
  · exact Lib.tabIs_of_head (g := (Tryd.prog.globalNamed "strings.asciiSpace").getD 0) (t := ((Tryd.prog.globals[(Tryd.prog.globalNamed "strings.asciiSpace").getD 0]?).map (·.type)).getD 0) (e := 5) (n := 256) (by kernel_rfl) (by kernel_rfl) (by kernel_rfl) (by kernel_rfl) (by kernel_rfl) (by kernel_rfl) h5
  · exact Lib.tabIs_of_head (g := (Tryd.prog.globalNamed "internal/strconv.uint64pow10").getD 0) (t := ((Tryd.prog.globals[(Tryd.prog.globalNamed "internal/strconv.uint64pow10").getD 0]?).map (·.type)).getD 0) (e := 133) (n := Lib.pow10Tab.length) (by kernel_rfl) (by kernel_rfl) (by kernel_rfl) (by kernel_rfl) (by kernel_rfl) (by kernel_rfl) h3

/-- Behind a call that keeps all that lay, where no argument holds an address. -/
theorem post_none {H : Type} {enc : TypeId × Value → H} {P : Program} {f : Func} {s : ChangeSpec} {apart fresh handsOn again : Bool} {W W' : World} {args : Array Value} {v : Value} {ds gs : List (DataW H)}
    (hW : DataW.Whole enc P f.params.toList s.vars apart W args.toList ds gs [])
    (hres : ∀ (b : Nat) (sp : Nat → Bool) (hd : Bool), DataW.TrodAll enc P W' b sp hd f.resultTypes.toList (v.resultList f.resultTypes.size) (s.fn H (ds ++ gs)).results [])
    (hargs : ∀ sp : Nat → Bool, DataW.TrodAll enc P W' 0 sp true f.params.toList args.toList (s.fn H (ds ++ gs)).args [])
    (hvars : ∀ sp : Nat → Bool, DataW.TrodVars enc P W' sp s.vars (s.fn H (ds ++ gs)).vars [])
    (hk : W.keptBut W' (fun p => p ∈ ([] : List MemPlace)))
    (hok : ∀ (j : Nat) (t : TypeId) (r : Value), f.resultTypes[j]? = some t → (v.resultList f.resultTypes.size)[j]? = some r → Value.okWide P W' .any 0 t r) :
    s.post enc P f apart fresh handsOn again W args v W' := by
  refine ⟨ds, gs, [], [], [], [], hW, hres _ _ _, hargs _, hvars _, World.keptBut_mono (fun p hp => by cases hp) hk, fun _ => ?_⟩
  refine ⟨hok, _, _, ([] ++ []) ++ [], ⟨[] ++ [], [], trodAll_append (hargs _) (hres _ _ _), hvars _, rfl, ?_, fun _ => List.nodup_nil⟩, fun p hp _ => by cases hp⟩
  intro b off hp
  cases hp
end Go.Proofs.YtkijoeihkajlcaaDoor

set_option linter.unusedVariables false
set_option linter.unusedSimpArgs false
namespace Go.Proofs.YtkijoeihkajlcaaDoor
open Go.ChangeShapes Go.WideShapes Go.ChangeAt Go.RowKit Go.ChangeMaps
open Go.Proofs.YtkijoeihkajlcaaDoorW.PrintWords

def isInt (P : Program) (t : TypeId) : Bool := match P.underlying t with | some (.int .i64) => true | _ => false
def isStr (P : Program) (t : TypeId) : Bool := match P.underlying t with | some .string => true | _ => false
/-- A struct of a number, a string and two numbers, each of one cell. -/
def tokOk (P : Program) (t : TypeId) : Bool := match P.underlying t with
  | some (.struct fs) => (match fs.toList with
    | [f0, f1, f2, f3] => (isInt P f0.type && ((f0.offset == 0) && (P.cellsOf f0.type == 1))) && ((isStr P f1.type && ((f1.offset == 1) && (P.cellsOf f1.type == 1))) && ((isInt P f2.type && ((f2.offset == 2) && (P.cellsOf f2.type == 1))) && (isInt P f3.type && ((f3.offset == 3) && (P.cellsOf f3.type == 1)))))
    | _ => false)
  | _ => false
theorem isInt_iff {P : Program} {t : TypeId} (h : isInt P t = true) : P.underlying t = some (.int .i64) := by
  unfold isInt at h
  split at h
  · assumption
  · cases h
theorem isStr_iff {P : Program} {t : TypeId} (h : isStr P t = true) : P.underlying t = some .string := by
  unfold isStr at h
  split at h
  · assumption
  · cases h
theorem tokOk_open {P : Program} {t : TypeId} (h : tokOk P t = true) : ∃ f0 f1 f2 f3 : Field, P.underlying t = some (.struct #[f0, f1, f2, f3]) ∧ (P.underlying f0.type = some (.int .i64) ∧ f0.offset = 0 ∧ P.cellsOf f0.type = 1) ∧ (P.underlying f1.type = some .string ∧ f1.offset = 1 ∧ P.cellsOf f1.type = 1) ∧ (P.underlying f2.type = some (.int .i64) ∧ f2.offset = 2 ∧ P.cellsOf f2.type = 1) ∧ (P.underlying f3.type = some (.int .i64) ∧ f3.offset = 3 ∧ P.cellsOf f3.type = 1) := by
  unfold tokOk at h
  split at h
  · rename_i fs hu
    split at h
    · rename_i f0 f1 f2 f3 hf
      simp only [Bool.and_eq_true, beq_iff_eq] at h
      obtain ⟨⟨a0, a1, a2⟩, ⟨b0, b1, b2⟩, ⟨c0, c1, c2⟩, e0, e1, e2⟩ := h
      have : fs = #[f0, f1, f2, f3] := by
        apply Array.toList_inj.1
        exact hf
      exact ⟨f0, f1, f2, f3, by rw [hu, this], ⟨isInt_iff a0, a1, a2⟩, ⟨isStr_iff b0, b1, b2⟩, ⟨isInt_iff c0, c1, c2⟩, isInt_iff e0, e1, e2⟩
    · cases h
  · cases h
theorem tok_ok : tokOk Tryd.prog 37 = true := by kernel_rfl
theorem tok_underlying : Tryd.prog.underlying 30 = some (.slice 37) := by kernel_rfl
theorem tok_cellsOf : Tryd.prog.cellsOf 37 = 4 := by kernel_rfl

set_option maxRecDepth 100000 in
/-- One token's four cells. -/
theorem tok_one {H : Type} {enc : TypeId × Value → H} {w : World} {base : Nat} {spare : Nat → Bool} {held : Bool} {n : Nat} {cs : List Value} {y : DataW H × List MemPlace}
    (h : DataW.trod enc Tryd.prog w base spare held n 37 cs = some y) : ∃ x : PAll.S, cs = [.int .i64 x.f0, .string x.f1, .int .i64 x.f2, .int .i64 x.f3] := by
  obtain ⟨f0, f1, f2, f3, hu, ⟨a0, a1, a2⟩, ⟨b0, b1, b2⟩, ⟨c0, c1, c2⟩, e0', e1', e2'⟩ := tokOk_open tok_ok
  obtain ⟨xs, m, _, _, hl, hlen, hx⟩ := DataW.trod_struct hu h
  rw [tok_cellsOf] at hl
  have hlen4 : xs.length = 4 := hlen
  have t0 := hx 0 f0 rfl
  have t1 := hx 1 f1 rfl
  have t2 := hx 2 f2 rfl
  have t3 := hx 3 f3 rfl
  rw [a1, a2, List.getElem?_eq_getElem (by omega)] at t0
  rw [b1, b2, List.getElem?_eq_getElem (by omega)] at t1
  rw [c1, c2, List.getElem?_eq_getElem (by omega)] at t2
  rw [e1', e2', List.getElem?_eq_getElem (by omega)] at t3
  obtain ⟨k, e0, _, _⟩ := DataW.trod_int (k := .i64) a0 t0
  obtain ⟨s, e1, _, _⟩ := DataW.trod_string b0 t1
  obtain ⟨N, e2, _, _⟩ := DataW.trod_int (k := .i64) c0 t2
  obtain ⟨p, e3, _, _⟩ := DataW.trod_int (k := .i64) e0' t3
  refine ⟨⟨k, s, N, p⟩, ?_⟩
  match cs, hl with
  | [c0, c1, c2, c3], _ =>
    simp at e0 e1 e2 e3
    rw [e0, e1, e2, e3]
/-- The tokens of a slice. -/
theorem open_toks {H : Type} {enc : TypeId × Value → H} {w : World} {a : Option Addr} {len cap : Nat} {d : DataW H} {ps : List MemPlace}
    (h : DataW.Trod enc Tryd.prog w 0 (fun _ => true) true 30 (.slice a len cap) d ps) : ∃ xs : List PAll.S, xs.length = len ∧ len ≤ cap ∧ Kd.C PAll.k37 w a len xs := by
  obtain ⟨fuel, hf⟩ := h
  rcases DataW.trod_slice tok_underlying hf with ⟨hcs, _⟩ | ⟨ad, len', cap', elems, rest, n, _, hcs, _, hb, hl, hm, hlen, hel, _, _⟩
  · simp [Value.cells] at hcs
    obtain ⟨rfl, rfl, rfl⟩ := hcs
    exact ⟨[], rfl, Nat.le_refl _, rfl, Nat.zero_le _, fun h => absurd h (by omega)⟩
  · simp [Value.cells] at hcs
    obtain ⟨rfl, rfl, rfl⟩ := hcs
    have each : ∀ i, i < len → ∃ x : PAll.S, ∀ j u, [Value.int .i64 x.f0, .string x.f1, .int .i64 x.f2, .int .i64 x.f3][j]? = some u → w.cell? (ad.add (i * 4 + j)) = some u := by
      intro i hi
      have h1 := hel i hi
      rw [List.getElem?_eq_getElem (by omega), Option.bind_eq_some_iff, tok_cellsOf] at h1
      obtain ⟨cs, hcs, htr⟩ := h1
      obtain ⟨x, rfl⟩ := tok_one htr
      obtain ⟨_, _, hcell⟩ := World.cells?_some hcs
      refine ⟨x, fun j u hj => ?_⟩
      have hj4 : j < 4 := by
        have := (List.getElem?_eq_some_iff.1 hj).1
        simpa using this
      have h2 := hcell j hj4
      rw [hj] at h2
      have hs := World.cell?_spot h2
      have e : (ad.add (i * 4)).add j = ad.add (i * 4 + j) := by
        unfold Addr.add
        by_cases h0 : i * 4 = 0
        · simp [h0]
        · by_cases hj0 : j = 0
          · simp [h0, hj0]
          · simp [h0, hj0, Nat.add_assoc]
      rw [← e]
      exact h2
    refine ⟨(List.range len).map fun i => if hi : i < len then Classical.choose (each i hi) else PAll.z37, by simp, hl, by simp, ?_, fun _ => ⟨ad, rfl, fun j p hj => ?_⟩⟩
    · have : maxLen ≤ 9223372036854775807 := by decide
      omega
    · rw [List.getElem?_map] at hj
      obtain ⟨i, hi, rfl⟩ := Option.map_eq_some_iff.1 hj
      have hlt : j < len := by
        have := (List.getElem?_eq_some_iff.1 hi).1
        simpa using this
      rw [List.getElem?_range hlt] at hi
      cases hi
      rw [dif_pos hlt]
      exact ⟨_, rfl, PAll.k37_mk w _, Classical.choose_spec (each j hlt)⟩
end Go.Proofs.YtkijoeihkajlcaaDoor

set_option linter.unusedVariables false
set_option linter.unusedSimpArgs false
namespace Go.Proofs.YtkijoeihkajlcaaDoor
open Go.ChangeShapes Go.WideShapes Go.ChangeAt Go.RowKit Go.ChangeMaps

theorem laidOutLexBack : laidOutB Tryd.prog = true := by kernel_rfl
set_option maxRecDepth 100000 in
theorem liftedLexBack (os : Os) (started : os.Started) (H : Type) (enc : TypeId × Value → H) :
    ReturnsInHanded {} Tryd.checked os 8 .any (fun w args => (Rows.lexBackSpec.pre enc Tryd.prog Tryd.f8 Rows.lexBackRow.domain false w args ∧ laidMetH Tryd.prog Rows.lexBackRow.laid w) ∧ sizedMet enc Tryd.prog Tryd.f8 (OpenSpec.ofChange Rows.lexBackSpec) false w args)
      (Rows.lexBackSpec.post enc Tryd.prog Tryd.f8 false true false false) := by
  refine returnsInHanded_of_change_and (C := Tryd.checked) (X := fun w _ => laidMetH Tryd.prog laidL w) (fun _ _ _ hh h => h.of_heap hh) ownK started (by kernel_rfl) Tryd.func8
    (ChangeSpec.witness_shaped (enc := enc) (C := Tryd.checked) (os := os) (X := fun w _ => laidMetH Tryd.prog laidL w) false (World.laidAll Tryd.prog os laidL) #[.slice none 0 0] 8 (World.laidAll_os _ _ _)
      (World.shaped_of_ZipB (by kernel_rfl) (by kernel_rfl)) (by kernel_rfl) (by kernel_rfl) (by kernel_rfl)
      (by rw [MakeChecks.laidMetH_plain _ _ _ (by kernel_rfl)]; exact laidMet_laidAll _ (by kernel_rfl) (by kernel_rfl))) ?_
  intro W base args ds gs before hval0 hW hc _ hL _
  have hval : ∀ (j : Nat) t v, Tryd.f8.params[j]? = some t → args[j]? = some v → Value.okWide Tryd.prog W .any base t v := hval0
  have hW' := hW
  obtain ⟨p, q, hA0, hV, rfl, _, _⟩ := hW
  have hA : DataW.TrodAll enc Tryd.prog W 0 (fun _ => true) true Tryd.f8.params.toList args.toList ds p := hA0
  rw [Tryd.params8] at hA hval
  obtain ⟨v0, vs0, d0, ds0, p0, q0, hargs, rfl, rfl, h0, r0⟩ := trodAll_cons hA
  obtain ⟨rfl, rfl, rfl⟩ := trodAll_nil r0
  obtain rfl : args = #[v0] := by cases args; simp_all
  obtain ⟨rfl, rfl⟩ := trodVars_none hV
  obtain ⟨a0, len0, cap0, rfl⟩ := okWide_slice tok_underlying (hval 0 30 v0 rfl rfl)
  have lt0 : ∀ x ∈ p0, x.block < W.heap.size := by obtain ⟨m, hm⟩ := h0; exact DataW.trod_lt m _ _ _ hm
  obtain ⟨xs0, rfl, hc0, hr0⟩ := open_toks h0
  refine (PAll.LexBack_law a0 cap0 xs0 W (laid_of_met hL) hr0 hc0).mono fun e W' ⟨he, hw⟩ => ?_
  subst he
  exact ⟨_, rfl, _, _, _, [], _, [], hW', trodAll_mk1 (shut_bool Tryd.underlying4 _), (trodAll_cons_mk (Below.trod laidOutLexBack (by kernel_rfl) (of_decide_eq_true (by kernel_rfl)) h0 hw lt0) trodAll_mk0), rfl, hw.frame _, fun h => by cases h⟩

theorem saidLexBack : Rows.LexBackSaid :=
  OpenClaim.holds_of_wide 8 Tryd.f8 rfl rfl rfl rfl rfl rfl rfl ⟨rfl, rfl, rfl, rfl, rfl⟩ rfl rfl rfl rfl rfl (by kernel_rfl) Tryd.func8 (by kernel_rfl)
    (of_decide_eq_true (by kernel_rfl)) (by unfold Func.isWrapper; first | (rw [if_pos (by decide +kernel)]; kernel_rfl) | (rw [if_neg (by decide +kernel)]; exact ⟨rfl, rfl⟩))
    (fun os started H enc _ => liftedLexBack os started H enc)
theorem lexBack_card : Rows.LexBackCardSaid :=
  Claim7.holds_tied_plain_at .later [] [.data, .data, .data, .listed, .data] true (true, "5b4db42141422620d803431d3e586301e422e1e551833148ccaf224fee0bee00") true saidLexBack (fun _ h => by cases h) (by kernel_rfl) (fun _ h => by cases h) lexBack_row_tie rfl ⟨rfl, rfl⟩ (by kernel_rfl) rfl
    (fun f fn hf hfn => by
      obtain rfl : f = 8 := Option.some.inj ((show Tryd.prog.funcNamed "sward/swardlaw02.LexBack" = some 8 by kernel_rfl).symm.trans hf) |>.symm
      obtain rfl : fn = Tryd.f8 := (Option.some.inj (Tryd.func8.symm.trans hfn)).symm
      exact ⟨by kernel_rfl, fun j t ht => by
        rw [Tryd.params8] at ht
        have hm : t ∈ [30] := by simpa using Array.mem_of_getElem? ht
        have hall : ([30].all fun u => !Tryd.prog.wantsStandIn u) = true := by kernel_rfl
        exact (show Tryd.prog.wantsStandIn t = false by simpa using List.all_eq_true.1 hall t hm)⟩)
    (by kernel_rfl)
#print axioms lexBack_card
end Go.Proofs.YtkijoeihkajlcaaDoor
