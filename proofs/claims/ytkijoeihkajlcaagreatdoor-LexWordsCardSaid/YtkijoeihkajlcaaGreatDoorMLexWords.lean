/-
  LexWords answers true for every input: the row and its tied card.
-/
import Derived.Test.YtkijoeihkajlcaaGreatDoorMc
import Derived.Test.YtkijoeihkajlcaaGreatDoorMp
import Derived.Test.YtkijoeihkajlcaaGreatDoorRAll9
import Derived.Test.YtkijoeihkajlcaaGreatDoorRows
import Derived.Test.YtkijoeihkajlcaaGreatDoorCards
import Derived.Test.YtkijoeihkajlcaaGreatDoorTie
import Derived.Lib.LaidTab
import Derived.Stop.LaidErr
import Derived.ProofKit
import Derived.OpenShut
import Derived.LaidMore
import Derived.Lay
import Derived.ChangeMaps5
import Derived.SevenTiedAt
import Derived.Stop.Joined
import Derived.SliceStrings
import Derived.Carry

set_option linter.unusedVariables false
set_option linter.unusedSimpArgs false
namespace Go.Proofs.YtkijoeihkajlcaaGreatDoor
open Go.RowKit Go.Shelf
open Go.Proofs.YtkijoeihkajlcaaGreatDoorW.PrintWords (Kd OwnRow Reps own_nil own_slice own_weaken pw_own_below blk_new blk_cell add_field)

/-- Two tokens are the same, wherever they begin. -/
def likeT (a b : Tk) : Bool := decide (a.f0 = b.f0) && (decide (a.f1 = b.f1) && decide (a.f2 = b.f2))
def sameTL : List Tk → List Tk → Bool
  | [], _ => true
  | x :: xs, y :: ys => likeT x y && sameTL xs ys
  | _ :: _, [] => true
def sameT (xs ys : List Tk) : Bool := decide (xs.length = ys.length) && sameTL xs ys
theorem string_same (a b : ByteArray) : (a.toList == b.toList) = decide (a = b) := by
  rw [Bool.eq_iff_iff, beq_iff_eq, decide_eq_true_iff, bs_toList, bs_toList]
  constructor
  · intro h
    apply ByteArray.ext
    exact Array.toList_inj.1 h
  · rintro rfl; rfl
theorem int_same (a b : Int) : (a == b) = decide (a = b) := by rw [Bool.eq_iff_iff, beq_iff_eq, decide_eq_true_iff]

set_option maxRecDepth 100000 in
set_option maxHeartbeats 4000000 in
theorem same1_calls (a b : Tk) (w : World) : Calls Tryz.prog 38 #[.agg #[.int .i64 a.f0, .string a.f1, .int .i64 a.f2, .int .i64 a.f3], .agg #[.int .i64 b.f0, .string b.f1, .int .i64 b.f2, .int .i64 b.f3]] w fun e w' => e = .returned (.bool (likeT a b)) ∧ Below w.heap.size w w' := by
  obtain ⟨a0, a1, a2, a3⟩ := a
  obtain ⟨b0, b1, b2, b3⟩ := b
  have hB := Lib.hid (below_two w (.cells #[.int .i64 a0, .string a1, .int .i64 a2, .int .i64 a3] 41 (0, 0)) (.cells #[.int .i64 b0, .string b1, .int .i64 b2, .int .i64 b3] 41 (0, 0)))
  unfold likeT
  simp only
  rw [← string_same, ← int_same, ← int_same]
  go_enter Tryz.func38, Tryz.ntmps38
  cases h0 : (a0 == b0)
  · go_wp2
    go_ret
    exact ⟨rfl, hB.out⟩
  · cases h1 : (a1.toList == b1.toList)
    · go_wp2
      go_ret
      exact ⟨rfl, hB.out⟩
    · go_wp2
      go_ret
      exact ⟨rfl, hB.out⟩
theorem enters_same1 (args : Array Value) (w : World) : (callFunc 38 args).run Tryz.prog w = .ok (.enter 38 args) w := enters_of Tryz.func38 (by kernel_rfl) rfl args w
theorem sameTL_drop (xs ys : List Tk) (i : Nat) (h : i < xs.length) (h2 : i < ys.length) : sameTL (xs.drop i) (ys.drop i) = (likeT (xs.getD i zTk) (ys.getD i zTk) && sameTL (xs.drop (i + 1)) (ys.drop (i + 1))) := by
  rw [words_drop xs i h, words_drop ys i h2]
  rfl

set_option maxRecDepth 100000 in
set_option maxHeartbeats 4000000 in
theorem EqualFunc_calls (A : Option Addr) (c : Nat) (xs : List Tk) (A' : Option Addr) (c' : Nat) (ys : List Tk) (w : World) (hr : Kd.C kTk w A xs.length xs) (hr' : Kd.C kTk w A' ys.length ys) (hn : xs.length ≤ 140737488355328) (hn' : ys.length ≤ 140737488355328) :
    Calls Tryz.prog 37 #[.slice A xs.length c, .slice A' ys.length c', .func (.func 38) #[] #[]] w fun e w' => e = .returned (.bool (sameT xs ys)) ∧ Below w.heap.size w w' := by
  obtain ⟨T, hT⟩ : ∃ T, T = sameT xs ys := ⟨_, rfl⟩
  rw [← hT]
  unfold sameT at hT
  have hF := enters_same1
  by_cases hl : xs.length = ys.length
  · rw [decide_eq_true hl, Bool.true_and] at hT
    have hTh := Lib.hid hT
    have hrh := Lib.hid hr
    have hrh' := Lib.hid hr'
    have hlh := Lib.hid hl
    have hlb : ((xs.length : Int) != (ys.length : Int)) = false := by rw [hl]; exact bne_self_eq_false _
    clear hT hr hr' hl
    go_enter Tryz.func37, Tryz.ntmps37
    go_wp2
    go_loopg [17] xs.length (fun g v17 wr => ∃ i : Nat, v17 = .int .i64 i ∧ i ≤ xs.length ∧ Hid (g + i = xs.length) ∧ Hid (Below w.heap.size w wr) ∧ Hid (T = sameTL (xs.drop i) (ys.drop i)))
    case atStart => exact ⟨0, rfl, Nat.zero_le _, Lib.hid rfl, Lib.hid (Below.refl _ _), Lib.hid (by simpa using hTh.out)⟩
    case round =>
      obtain ⟨i, rfl, hi, hg, hB, hTi⟩ := hrel
      by_cases hlt : i < xs.length
      · have hlt2 : i < ys.length := by have := hlh.out; omega
        obtain ⟨ad, rfl, d0, d1, d2, d3⟩ := at_Tk (Kd.C_below hrh.out hB.out) i (by omega) (by omega)
        simp only [Int.toNat_natCast] at d0 d1 d2 d3
        have hdr := Lib.hid (sameTL_drop xs ys i hlt hlt2)
        obtain ⟨x, hx⟩ : ∃ x, x = xs.getD i zTk := ⟨_, rfl⟩
        obtain ⟨y, hy⟩ : ∃ y, y = ys.getD i zTk := ⟨_, rfl⟩
        have hBx := Lib.hid (hB.out.alloc hB.out.size (.cells #[.int .i64 x.f0, .string x.f1, .int .i64 x.f2, .int .i64 x.f3] 41 (0, 0)))
        obtain ⟨ad', rfl, e0, e1, e2, e3⟩ := at_Tk (Kd.C_below hrh'.out hBx.out) i (by omega) (by omega)
        simp only [Int.toNat_natCast] at e0 e1 e2 e3
        rw [← hx] at d0 d1 d2 d3 hdr
        rw [← hy] at e0 e1 e2 e3 hdr
        have hBy := Lib.hid (hBx.out.alloc (by have := hBx.out.size; simpa using this) (.cells #[.int .i64 y.f0, .string y.f1, .int .i64 y.f2, .int .i64 y.f3] 41 (0, 0)))
        clear hx hy
        have hsc := Lib.hid (same1_calls x y)
        go_wp2_with fail
        refine (hsc.out _).mono ?_
        rintro e w1 ⟨rfl, hb⟩
        have hB1 := Lib.hid (below_then hBy.out hb (Nat.le_refl _))
        clear hb
        cases hlk : likeT x y
        · go_wp2
          go_ret
          refine ⟨?_, hB1.out⟩
          rw [hTi.out, hdr.out, hlk]
          rfl
        · go_wp2
          go_roundg (xs.length - (i + 1))
          case measure => have := hg.out; omega
          case rel => exact ⟨i + 1, by go_num, by omega, Lib.hid (by omega), hB1, Lib.hid (by rw [hTi.out, hdr.out, hlk, Bool.true_and])⟩
      · go_wp2
        go_ret
        refine ⟨?_, hB.out⟩
        rw [hTi.out, List.drop_of_length_le (by omega)]
        rfl
  · rw [decide_eq_false hl, Bool.false_and] at hT
    subst hT
    have hlb : ((xs.length : Int) != (ys.length : Int)) = true := by rw [bne_iff_ne]; omega
    go_enter Tryz.func37, Tryz.ntmps37
    go_wp2
    go_ret
    exact ⟨rfl, Below.refl _ _⟩

set_option maxRecDepth 100000 in
set_option maxHeartbeats 4000000 in
theorem Same_calls (A : Option Addr) (c : Nat) (xs : List Tk) (A' : Option Addr) (c' : Nat) (ys : List Tk) (w : World) (hr : Kd.C kTk w A xs.length xs) (hr' : Kd.C kTk w A' ys.length ys) (hn : xs.length ≤ 140737488355328) (hn' : ys.length ≤ 140737488355328) :
    Calls Tryz.prog 19 #[.slice A xs.length c, .slice A' ys.length c'] w fun e w' => e = .returned (.bool (sameT xs ys)) ∧ Below w.heap.size w w' := by
  have hc := Lib.hid (EqualFunc_calls A c xs A' c' ys w hr hr' hn hn')
  clear hr hr'
  go_enter Tryz.func19, Tryz.ntmps19
  go_wp2_with fail
  refine hc.out.mono ?_
  rintro e w1 ⟨rfl, hb⟩
  go_wp2
  go_ret
  exact ⟨rfl, hb⟩
end Go.Proofs.YtkijoeihkajlcaaGreatDoor

set_option linter.unusedVariables false
set_option linter.unusedSimpArgs false
namespace Go.Proofs.YtkijoeihkajlcaaGreatDoor.PAll
open Go.RowKit Go.Shelf
open Go.Proofs.YtkijoeihkajlcaaGreatDoorW.PrintWords

theorem bt_nat (s : ByteArray) (i : Nat) (h : i < s.size) : bt s (i : Int) = (s[i].toNat : Int) := by
  rw [← bt_at s i (by simpa using h)]
  rfl
theorem wrap_nat (n : Nat) (h : n < 9223372036854775807) : wrap64 ((n : Int)) = n := by unfold wrap64; omega
theorem wrap_succ (n : Nat) (h : n < 9223372036854775807) : wrap64 ((n : Int) + 1) = ((n + 1 : Nat) : Int) := by unfold wrap64; omega
theorem Ev.ite_pos {α : Type} {c : Prop} [Decidable c] {g f : Nat → Option α} {r : α} (hc : c) (h : Ev g r) : Ev (fun n => if c then g n else f n) r := by simpa [hc] using h
theorem Ev.ite_neg {α : Type} {c : Prop} [Decidable c] {g f : Nat → Option α} {r : α} (hc : ¬ c) (h : Ev f r) : Ev (fun n => if c then g n else f n) r := by simpa [hc] using h
theorem blank_f (c : UInt8) : swardref02_blank.f (c.toNat : Int) = some (Lx.isBlank c) := by
  unfold swardref02_blank.f Lx.isBlank
  split
  · rename_i h; have : c.toNat = 32 := by omega
    simp [this]
  · split
    · rename_i h1 h; have : c.toNat = 9 := by omega
      simp [this]
    · rename_i h1 h2
      have a : (c.toNat == 32) = false := by simp; omega
      have b : (c.toNat == 9) = false := by simp; omega
      rw [a, b, Bool.false_or, Bool.false_or]
      congr 1
      rw [Bool.eq_iff_iff, beq_iff_eq, beq_iff_eq]
      omega
theorem Ev.succ {α : Type} {g : Nat → Option α} {r : α} (h : Ev (fun k => g (k + 1)) r) : Ev g r := Ev.step (fun _ => rfl) h
theorem ev_skip (s : ByteArray) (hs : s.size ≤ 4200) : ∀ (n i : Nat), i ≤ s.size → s.size - i = n →
    Ev (fun k => swardref02_skip.l0 k s i) ((i + Lx.skipF false (s.data.toList.drop i) : Nat) : Int) ∧ Ev (fun k => swardref02_skip.l1 k s i) ((i + Lx.skipF true (s.data.toList.drop i) : Nat) : Int) := by
  intro n
  induction n with
  | zero =>
    intro i hi hn
    have he : s.data.toList.drop i = [] := List.drop_of_length_le (by simp; omega)
    have h1 : ¬ ((i : Int) < (s.size : Int)) := by omega
    have h0 : Ev (fun k => swardref02_skip.l0 k s i) ((i + Lx.skipF false (s.data.toList.drop i) : Nat) : Int) := by
      rw [he]
      refine Ev.succ (Ev.succ ?_)
      simp only [swardref02_skip.l0, swardref02_skip.j1, h1, if_false, Bool.false_eq_true]
      exact Ev.now _
    refine ⟨h0, Ev.succ ?_⟩
    simp only [swardref02_skip.l1, h1, if_false]
    rw [he] at h0 ⊢
    exact h0
  | succ n ih =>
    intro i hi hn
    have hlt : i < s.size := by omega
    obtain ⟨ih0, ih1⟩ := ih (i + 1) (by omega) (by omega)
    have hd := drop_cons s i hlt
    rw [hd]
    have hb := bt_nat s i hlt
    have hw := wrap_succ i (by omega)
    have h1 : (i : Int) < (s.size : Int) := by omega
    have h2 : (0 : Int) ≤ (i : Int) := by omega
    have h0 : Ev (fun k => swardref02_skip.l0 k s i) ((i + Lx.skipF false (s[i] :: s.data.toList.drop (i + 1)) : Nat) : Int) := by
      by_cases hbl : Lx.isBlank s[i] = true
      · have hn35 : ¬ ((s[i].toNat : Int) = 35) := by
          intro h
          have : s[i].toNat = 35 := by omega
          simp [Lx.isBlank, this] at hbl
        refine Ev.succ (Ev.succ ?_)
        simp only [swardref02_skip.l0, swardref02_skip.j1, h1, h2, if_true, hb, blank_f, Option.bind_some, hbl, hn35, if_false, hw]
        simp only [Lx.skipF, hbl, if_true]
        rw [show i + (Lx.skipF false (s.data.toList.drop (i + 1)) + 1) = i + 1 + Lx.skipF false (s.data.toList.drop (i + 1)) by omega]
        exact ih0
      · by_cases h35 : s[i].toNat = 35
        · have e35 : ((s[i].toNat : Int) == 35) = true := by simp; omega
          have f35 : (s[i].toNat : Int) = 35 := by omega
          have f10 : ¬ (35 : Int) = 10 := by omega
          refine Ev.succ (Ev.succ (Ev.succ ?_))
          simp only [swardref02_skip.l0, swardref02_skip.j1, swardref02_skip.l1, h1, h2, if_true, hb, blank_f, Option.bind_some, hbl, e35, f35, if_false, Bool.false_eq_true, f10, hw, beq_self_eq_true]
          simp only [Lx.skipF, hbl, if_false, Bool.false_eq_true, h35, if_true]
          rw [show i + (Lx.skipF true (s.data.toList.drop (i + 1)) + 1) = i + 1 + Lx.skipF true (s.data.toList.drop (i + 1)) by omega]
          exact ih1
        · have e35 : ((s[i].toNat : Int) == 35) = false := by simp; omega
          refine Ev.succ (Ev.succ ?_)
          simp only [swardref02_skip.l0, swardref02_skip.j1, h1, h2, if_true, hb, blank_f, Option.bind_some, hbl, e35, if_false, Bool.false_eq_true]
          simp only [Lx.skipF, hbl, if_false, Bool.false_eq_true, h35, Nat.add_zero]
          exact Ev.now _
    refine ⟨h0, ?_⟩
    by_cases h10 : s[i].toNat = 10
    · have f10 : (s[i].toNat : Int) = 10 := by omega
      refine Ev.succ ?_
      simp only [swardref02_skip.l1, h1, h2, if_true, hb, f10]
      have : Lx.skipF true (s[i] :: s.data.toList.drop (i + 1)) = Lx.skipF false (s[i] :: s.data.toList.drop (i + 1)) := by
        simp [Lx.skipF, Lx.notNl, Lx.isBlank, h10]
      rw [this]
      exact h0
    · have f10 : ¬ ((s[i].toNat : Int) = 10) := by omega
      refine Ev.succ ?_
      simp only [swardref02_skip.l1, h1, h2, if_true, hb, f10, if_false, hw]
      have : Lx.skipF true (s[i] :: s.data.toList.drop (i + 1)) = Lx.skipF true (s.data.toList.drop (i + 1)) + 1 := by
        simp [Lx.skipF, Lx.notNl, h10]
      rw [this, show i + (Lx.skipF true (s.data.toList.drop (i + 1)) + 1) = i + 1 + Lx.skipF true (s.data.toList.drop (i + 1)) by omega]
      exact ih1
theorem ev_skip_f (s : ByteArray) (hs : s.size ≤ 4200) (i : Nat) (hi : i ≤ s.size) : Ev (fun k => swardref02_skip.f k s i) ((i + Lx.skipL (s.data.toList.drop i) : Nat) : Int) := (ev_skip s hs _ i hi rfl).1
theorem letter_f (c : UInt8) : swardref02_letter.f (c.toNat : Int) = some (Lx.isLet c) := by
  unfold swardref02_letter.f Lx.isLet
  split
  · rename_i h
    have a : decide (97 ≤ c.toNat) = true := decide_eq_true (by omega)
    rw [a, Bool.true_and]
    congr 1
    rw [decide_eq_decide]
    omega
  · rename_i h
    have a : decide (97 ≤ c.toNat) = false := decide_eq_false (by omega)
    rw [a, Bool.false_and]
theorem quoted_f (c : UInt8) : swardref02_quoted.f (c.toNat : Int) = some (Lx.isTxt c) := by
  unfold swardref02_quoted.f Lx.isTxt
  by_cases h1 : 32 ≤ c.toNat
  · have a1 : decide (32 ≤ c.toNat) = true := decide_eq_true h1
    rw [if_pos (by omega), a1, Bool.true_and]
    by_cases h2 : c.toNat ≤ 126
    · have a2 : decide (c.toNat ≤ 126) = true := decide_eq_true h2
      rw [if_pos (by omega), a2, Bool.true_and]
      by_cases h3 : c.toNat = 34
      · rw [if_pos (by omega)]
        simp [h3]
      · have a3 : decide (c.toNat ≠ 34) = true := decide_eq_true h3
        rw [if_neg (by omega), a3, Bool.true_and]
        congr 1
        rw [Bool.eq_iff_iff, bne_iff_ne, decide_eq_true_iff]
        omega
    · have a2 : decide (c.toNat ≤ 126) = false := decide_eq_false h2
      rw [if_neg (by omega), a2, Bool.false_and]
  · have a1 : decide (32 ≤ c.toNat) = false := decide_eq_false h1
    rw [if_neg (by omega), a1, Bool.false_and]
theorem ev_stuff (s : ByteArray) (hs : s.size ≤ 4200) : ∀ (n i m : Nat), i + m ≤ s.size → s.size - (i + m) = n →
    Ev (fun k => swardref02_stuff.l0 k s i m) ((m + Lx.runL Lx.isTxt (s.data.toList.drop (i + m)) : Nat) : Int) := by
  intro n
  induction n with
  | zero =>
    intro i m hi hn
    have he : s.data.toList.drop (i + m) = [] := List.drop_of_length_le (by simp; omega)
    rw [he]
    have hw : wrap64 ((i : Int) + m) = ((i + m : Nat) : Int) := by unfold wrap64; omega
    have h1 : ¬ (((i + m : Nat) : Int) < (s.size : Int)) := by omega
    refine Ev.succ ?_
    simp only [swardref02_stuff.l0, hw, h1, if_false]
    exact Ev.now _
  | succ n ih =>
    intro i m hi hn
    have hlt : i + m < s.size := by omega
    have ih0 := ih i (m + 1) (by omega) (by omega)
    have hd := drop_cons s (i + m) hlt
    rw [hd]
    have hb := bt_nat s (i + m) hlt
    have hw : wrap64 ((i : Int) + m) = ((i + m : Nat) : Int) := by unfold wrap64; omega
    have hw1 : wrap64 ((m : Int) + 1) = ((m + 1 : Nat) : Int) := by unfold wrap64; omega
    have h1 : ((i + m : Nat) : Int) < (s.size : Int) := by omega
    have h2 : (0 : Int) ≤ ((i + m : Nat) : Int) := by omega
    refine Ev.succ ?_
    by_cases hl : Lx.isTxt s[i + m] = true
    · simp only [swardref02_stuff.l0, hw, h1, h2, if_true, hb, quoted_f, Option.bind_some, hl, hw1]
      simp only [Lx.runL, hl, if_true]
      rw [show m + (Lx.runL Lx.isTxt (s.data.toList.drop (i + m + 1)) + 1) = m + 1 + Lx.runL Lx.isTxt (s.data.toList.drop (i + (m + 1))) by rw [show i + (m + 1) = i + m + 1 by omega]; omega]
      exact ih0
    · simp only [swardref02_stuff.l0, hw, h1, h2, if_true, hb, quoted_f, Option.bind_some, hl, if_false, Bool.false_eq_true]
      simp only [Lx.runL, hl, if_false, Bool.false_eq_true, Nat.add_zero]
      exact Ev.now _
def memB (xs : List ByteArray) (s : ByteArray) : Bool := xs.any fun x => decide (x.data.toList = s.data.toList)
theorem ev_among (xs : List ByteArray) (hx : xs.length ≤ 4000) (s : ByteArray) : ∀ (n i : Nat), i ≤ xs.length → xs.length - i = n →
    Ev (fun k => swardref02_among.l0 k xs s i) (memB (xs.drop i) s) := by
  intro n
  induction n with
  | zero =>
    intro i hi hn
    have he : xs.drop i = [] := List.drop_of_length_le (by omega)
    have h1 : ¬ ((i : Int) < (xs.length : Int)) := by omega
    refine Ev.succ ?_
    simp only [swardref02_among.l0, h1, if_false, he]
    exact Ev.now _
  | succ n ih =>
    intro i hi hn
    have hlt : i < xs.length := by omega
    have ih0 := ih (i + 1) (by omega) (by omega)
    have hw := wrap_succ i (by omega)
    have h1 : (i : Int) < (xs.length : Int) := by omega
    have h2 : (0 : Int) ≤ (i : Int) := by omega
    have hr : rdOf ByteArray.empty xs (i : Int) = xs[i] := by simp [rdOf, List.getD_eq_getElem?_getD, List.getElem?_eq_getElem hlt]
    rw [List.drop_eq_getElem_cons hlt]
    unfold memB at ih0 ⊢
    rw [List.any_cons]
    refine Ev.succ ?_
    by_cases he : xs[i].toList = s.toList
    · have hes : xs[i].data.toList = s.data.toList := by rw [← bs_toList, he, bs_toList]
      simp only [swardref02_among.l0, h1, h2, if_true, hr, he]
      rw [decide_eq_true hes, Bool.true_or]
      exact Ev.now _
    · have hne : ¬ xs[i].data.toList = s.data.toList := fun h => he (by rw [bs_toList, bs_toList, h])
      simp only [swardref02_among.l0, h1, h2, if_true, hr, he, if_false, hw]
      rw [decide_eq_false hne, Bool.false_or]
      exact ih0
theorem memB_map (ls : List Lx.Bs) (s : ByteArray) : memB (ls.map bsOf) s = ls.contains s.data.toList := by
  unfold memB
  induction ls with
  | nil => rfl
  | cons l ls ih =>
    rw [List.map_cons, List.any_cons, ih, List.contains_cons]
    congr 1
    rw [Bool.eq_iff_iff, decide_eq_true_iff, beq_iff_eq]
    show l = _ ↔ _
    exact eq_comm
theorem keys_eq : swardref02_Keys.f = some (Lx.keyWords.map bsOf) := rfl
theorem signs_eq : swardref02_Signs.f = some (Lx.signWords.map bsOf) := rfl
theorem ev_Key (s : ByteArray) : Ev (fun k => swardref02_Key.f k s) (Lx.isKey s.data.toList) := by
  have ha := ev_among (Lx.keyWords.map bsOf) (by decide) s _ 0 (Nat.zero_le _) rfl
  rw [List.drop_zero, memB_map] at ha
  refine Ev.congr (fun k => ?_) ha
  unfold swardref02_Key.f
  rw [keys_eq]
  show Option.bind (swardref02_among.l0 k (Lx.keyWords.map bsOf) s 0) (fun t => some t) = swardref02_among.l0 k (Lx.keyWords.map bsOf) s 0
  cases swardref02_among.l0 k (Lx.keyWords.map bsOf) s 0 <;> rfl
theorem ext_eq (s : ByteArray) (a n b : Nat) (h : b = a + n) : s.extract a b = bsOf ((s.data.toList.drop a).take n) := by
  have := extract_eq s a n b h
  unfold strV at this
  injection this
end Go.Proofs.YtkijoeihkajlcaaGreatDoor.PAll

set_option linter.unusedVariables false
set_option linter.unusedSimpArgs false
namespace Go.Proofs.YtkijoeihkajlcaaGreatDoor.PAll
open Go.RowKit Go.Shelf
open Go.Proofs.YtkijoeihkajlcaaGreatDoorW.PrintWords

/-- A token as the printed functions have it, and as the walk of package lex has it. -/
abbrev S := S41
def sT (x : S) : Tk := ⟨x.f0, x.f1, x.f2, x.f3⟩
theorem reads_sT {w : World} {A : Option Addr} {n : Nat} {xs : List S} (h : Kd.C k41 w A n xs) : Kd.C kTk w A n (xs.map sT) := by
  obtain ⟨h1, h2, h3⟩ := h
  refine ⟨by rw [List.length_map]; exact h1, h2, fun hn => ?_⟩
  obtain ⟨ad, e, hc⟩ := h3 hn
  refine ⟨ad, e, fun j p hj => ?_⟩
  rw [List.getElem?_map] at hj
  obtain ⟨x, hx, rfl⟩ := Option.map_eq_some_iff.1 hj
  exact hc j x hx
theorem int_beq (a b : Int) : (a == b) = decide (a = b) := by rw [Bool.eq_iff_iff, beq_iff_eq, decide_eq_true_iff]
theorem rd_S (xs : List S) (i : Nat) (h : i < xs.length) : rd_T41 xs (i : Int) = xs[i] := by
  simp [rd_T41, List.getD_eq_getElem?_getD, List.getElem?_eq_getElem h]
theorem toList_inj (a b : ByteArray) : a.toList = b.toList ↔ a = b := by
  rw [bs_toList, bs_toList]
  constructor
  · intro h
    apply ByteArray.ext
    exact Array.toList_inj.1 h
  · rintro rfl; rfl

/-! ### the same tokens -/
def likeB (a b : S) : Bool := decide (a.f0 = b.f0) && (decide (a.f1 = b.f1) && decide (a.f2 = b.f2))
theorem like_f (a b : S) : swardref02_Like.f a.f0 a.f1 a.f2 a.f3 b.f0 b.f1 b.f2 b.f3 = some (likeB a b) := by
  unfold swardref02_Like.f likeB
  by_cases h0 : a.f0 = b.f0
  · by_cases h1 : a.f1 = b.f1
    · rw [if_pos h0, if_pos ((toList_inj _ _).2 h1)]
      simp [h0, h1, int_beq]
    · rw [if_pos h0, if_neg (fun h => h1 ((toList_inj _ _).1 h))]
      simp [h1]
  · rw [if_neg h0]
    simp [h0]
def sameL : List S → List S → Bool
  | [], _ => true
  | x :: xs, y :: ys => likeB x y && sameL xs ys
  | _ :: _, [] => true
def sameB (xs ys : List S) : Bool := decide (xs.length = ys.length) && sameL xs ys
theorem sameL_drop (xs ys : List S) (i : Nat) (h : i < xs.length) (h2 : i < ys.length) : sameL (xs.drop i) (ys.drop i) = (likeB xs[i] ys[i] && sameL (xs.drop (i + 1)) (ys.drop (i + 1))) := by
  rw [List.drop_eq_getElem_cons h, List.drop_eq_getElem_cons h2]
  rfl
theorem ev_same_l (xs ys : List S) (hl : xs.length = ys.length) (hx : xs.length ≤ 1000000000000000) : ∀ (n i : Nat), i ≤ xs.length → xs.length - i = n → Ev (fun k => swardref02_Same.l0 k xs ys i) (sameL (xs.drop i) (ys.drop i)) := by
  intro n
  induction n with
  | zero =>
    intro i hi hn
    have h1 : ¬ ((i : Int) < (xs.length : Int)) := by omega
    have he : xs.drop i = [] := List.drop_of_length_le (by omega)
    rw [he]
    refine Ev.succ ?_
    simp only [swardref02_Same.l0, h1, if_false]
    exact Ev.now _
  | succ n ih =>
    intro i hi hn
    have hlt : i < xs.length := by omega
    have hlt2 : i < ys.length := by omega
    have ih0 := ih (i + 1) (by omega) (by omega)
    have h1 : (i : Int) < (xs.length : Int) := by omega
    have h3 : (i : Int) < (ys.length : Int) := by omega
    have h2 : (0 : Int) ≤ (i : Int) := Int.natCast_nonneg _
    have hw := wrap_succ i (by omega)
    rw [sameL_drop xs ys i hlt hlt2]
    refine Ev.succ ?_
    simp only [swardref02_Same.l0, h1, h2, h3, if_true, rd_S xs i hlt, rd_S ys i hlt2, like_f, Option.bind_some, hw]
    cases hb : likeB xs[i] ys[i]
    · simp only [Bool.false_eq_true, if_false, Bool.false_and]
      exact Ev.now _
    · simp only [if_true, Bool.true_and]
      exact ih0
theorem ev_Same (xs ys : List S) (hx : xs.length ≤ 1000000000000000) : Ev (fun k => swardref02_Same.f k xs ys) (sameB xs ys) := by
  unfold sameB
  by_cases hl : xs.length = ys.length
  · have h1 : (xs.length : Int) = (ys.length : Int) := by omega
    have := ev_same_l xs ys hl hx _ 0 (Nat.zero_le _) rfl
    rw [List.drop_zero, List.drop_zero] at this
    simp only [swardref02_Same.f, h1, if_true, decide_eq_true hl, Bool.true_and]
    exact this
  · have h1 : ¬ (xs.length : Int) = (ys.length : Int) := by omega
    simp only [swardref02_Same.f, h1, if_false, decide_eq_false hl, Bool.false_and]
    exact Ev.now _
theorem sameL_iff : ∀ (xs ys : List S), xs.length = ys.length → (sameL xs ys = true ↔ xs.map (fun x => (x.f0, x.f1, x.f2)) = ys.map (fun x => (x.f0, x.f1, x.f2)))
  | [], [], _ => by simp [sameL]
  | x :: xs, y :: ys, h => by
    have ih := sameL_iff xs ys (by simpa using h)
    simp only [sameL, Bool.and_eq_true, ih, List.map_cons, List.cons.injEq, Prod.mk.injEq, likeB, decide_eq_true_eq]
  | [], _ :: _, h => by simp at h
  | _ :: _, [], h => by simp at h
theorem sameB_iff (xs ys : List S) : sameB xs ys = true ↔ xs.map (fun x => (x.f0, x.f1, x.f2)) = ys.map (fun x => (x.f0, x.f1, x.f2)) := by
  unfold sameB
  rw [Bool.and_eq_true, decide_eq_true_iff]
  constructor
  · rintro ⟨h1, h2⟩
    exact (sameL_iff xs ys h1).1 h2
  · intro h
    have hl : xs.length = ys.length := by simpa using congrArg List.length h
    exact ⟨hl, (sameL_iff xs ys hl).2 h⟩
theorem ev_SameAll_self (xs : List S) (hx : xs.length ≤ 10000) : Ev (fun k => swardref02_SameAll.f k xs xs) true := by
  have h : ∀ (n i : Nat), i ≤ xs.length → xs.length - i = n → Ev (fun k => swardref02_SameAll.l0 k xs xs i) true := by
    intro n
    induction n with
    | zero =>
      intro i hi hn
      have h1 : ¬ ((i : Int) < (xs.length : Int)) := by omega
      refine Ev.succ ?_
      simp only [swardref02_SameAll.l0, h1, if_false]
      exact Ev.now _
    | succ n ih =>
      intro i hi hn
      have ih0 := ih (i + 1) (by omega) (by omega)
      have h1 : (i : Int) < (xs.length : Int) := by omega
      have h2 : (0 : Int) ≤ (i : Int) := Int.natCast_nonneg _
      have hw := wrap_succ i (by omega)
      refine Ev.succ ?_
      simp only [swardref02_SameAll.l0, h1, h2, if_true, hw]
      exact ih0
  have hs := ev_Same xs xs (by omega)
  rw [(sameB_iff xs xs).2 rfl] at hs
  unfold swardref02_SameAll.f
  refine Ev.bind (f := fun k (t : Bool) => if t = true then swardref02_SameAll.l0 k xs xs 0 else some false) hs ?_
  simp only [if_true]
  exact h _ 0 (Nat.zero_le _) rfl

/-! ### tokens that are as defined -/
theorem ev_lettered (s : ByteArray) (hs : s.size ≤ 4200) : ∀ (n i : Nat), i ≤ s.size → s.size - i = n → Ev (fun k => swardref02_lettered.l0 k s i) ((s.data.toList.drop i).all Lx.isLet) := by
  intro n
  induction n with
  | zero =>
    intro i hi hn
    have he : s.data.toList.drop i = [] := List.drop_of_length_le (by simp; omega)
    have h1 : ¬ ((i : Int) < (s.size : Int)) := by omega
    rw [he]
    refine Ev.succ ?_
    simp only [swardref02_lettered.l0, h1, if_false]
    exact Ev.now _
  | succ n ih =>
    intro i hi hn
    have hlt : i < s.size := by omega
    have ih0 := ih (i + 1) (by omega) (by omega)
    have hd := drop_cons s i hlt
    have hb := bt_nat s i hlt
    have hw := wrap_succ i (by omega)
    have h1 : (i : Int) < (s.size : Int) := by omega
    have h2 : (0 : Int) ≤ (i : Int) := by omega
    rw [hd, List.all_cons]
    refine Ev.succ ?_
    simp only [swardref02_lettered.l0, h1, h2, if_true, hb, letter_f, Option.bind_some, hw]
    cases hl : Lx.isLet s[i]
    · simp only [Bool.false_eq_true, if_false, Bool.false_and]
      exact Ev.now _
    · simp only [if_true, Bool.true_and]
      exact ih0
theorem ev_Name (s : ByteArray) : Ev (fun k => swardref02_Name.f k s) (Lx.isName s.data.toList) := by
  have hlen : s.data.toList.length = s.size := by simp
  by_cases h1 : 1 ≤ s.size
  · by_cases h8 : s.size ≤ 8
    · have hl := ev_lettered s (by omega) _ 0 (Nat.zero_le _) rfl
      rw [List.drop_zero] at hl
      have hk := ev_Key s
      have c1 : (s.size : Int) ≥ 1 := by omega
      have c2 : (s.size : Int) ≤ 8 := by omega
      have hn : Lx.isName s.data.toList = (s.data.toList.all Lx.isLet && !Lx.isKey s.data.toList) := by
        unfold Lx.isName
        rw [decide_eq_true (by omega), decide_eq_true (by omega), Bool.true_and, Bool.true_and]
      rw [hn]
      simp only [swardref02_Name.f, c1, c2, if_true]
      refine Ev.bind (f := fun k (t : Bool) => if t = true then ((swardref02_Key.f k s).bind fun t => some (!t)) else some false) hl ?_
      cases ha : s.data.toList.all Lx.isLet
      · simp only [Bool.false_eq_true, if_false, Bool.false_and]
        exact Ev.now _
      · simp only [if_true, Bool.true_and]
        exact Ev.bind (f := fun k (t : Bool) => some (!t)) hk (Ev.now _)
    · have c1 : (s.size : Int) ≥ 1 := by omega
      have c2 : ¬ (s.size : Int) ≤ 8 := by omega
      have hn : Lx.isName s.data.toList = false := by
        unfold Lx.isName
        rw [decide_eq_false (p := s.data.toList.length ≤ 8) (by omega), Bool.false_and, Bool.and_false]
      rw [hn]
      simp only [swardref02_Name.f, c1, c2, if_true, if_false]
      exact Ev.now _
  · have c1 : ¬ (s.size : Int) ≥ 1 := by omega
    have hn : Lx.isName s.data.toList = false := by
      unfold Lx.isName
      rw [decide_eq_false (p := 1 ≤ s.data.toList.length) (by omega), Bool.false_and]
    rw [hn]
    simp only [swardref02_Name.f, c1, if_false]
    exact Ev.now _
theorem run_all (p : UInt8 → Bool) : ∀ l : Lx.Bs, decide ((Lx.runL p l : Int) = (l.length : Int)) = l.all p
  | [] => rfl
  | c :: l => by
    have ih := run_all p l
    have hle := Lx.runL_le p l
    rw [List.all_cons]
    cases hc : p c
    · rw [Bool.false_and]
      refine decide_eq_false ?_
      simp [Lx.runL, hc]
      omega
    · rw [Bool.true_and, ← ih, decide_eq_decide]
      simp [Lx.runL, hc]
def tokenB (x : S) : Bool := (Lx.pieceOf (sT x)).isSome
theorem ev_tok0 (x : S) (hx : ¬ (x.f3 < 0 ∨ 4000 < x.f3 ∨ (x.f0 ≠ 3 ∧ x.f2 ≠ 0))) : Ev (fun k => swardref02_Token.j0 k false x.f0 x.f1 x.f2 x.f3) (tokenB x) := by
  obtain ⟨k, s, n, a⟩ := x
  unfold tokenB Lx.pieceOf sT
  simp only at hx ⊢
  rw [if_neg hx]
  refine Ev.succ ?_
  simp only [swardref02_Token.j0, Bool.false_eq_true, if_false]
  by_cases h1 : k = 1
  · subst h1
    simp only [if_true]
    have := ev_Name s
    refine Ev.bind (f := fun k (t : Bool) => some t) this ?_
    cases Lx.isName s.data.toList <;> exact Ev.now _
  · by_cases h2 : k = 2
    · subst h2
      have e1 : ¬ ((2 : Int) = 1) := by omega
      simp only [e1, if_true, if_false]
      refine Ev.bind (f := fun k (t : Bool) => some t) (ev_Key s) ?_
      cases Lx.isKey s.data.toList <;> exact Ev.now _
    · by_cases h3 : k = 3
      · subst h3
        have e1 : ¬ ((3 : Int) = 1) := by omega
        have e2 : ¬ ((3 : Int) = 2) := by omega
        simp only [e1, e2, if_true, if_false]
        by_cases hs : s = ⟨#[]⟩
        · have hs2 : s.toList = [] := by rw [hs, bs_toList]
          by_cases hn1 : n ≥ -1000000000
          · by_cases hn2 : n ≤ 1000000000
            · rw [show (if s = (⟨#[]⟩ : ByteArray) ∧ -1000000000 ≤ n ∧ n ≤ 1000000000 then some (Lx.Piece.num n) else none).isSome = true by rw [if_pos ⟨hs, hn1, hn2⟩]; rfl]
              simp only [hs2, hn1, hn2, if_true, decide_true]
              exact Ev.now _
            · rw [show (if s = (⟨#[]⟩ : ByteArray) ∧ -1000000000 ≤ n ∧ n ≤ 1000000000 then some (Lx.Piece.num n) else none).isSome = false by rw [if_neg (by rintro ⟨_, _, h⟩; exact hn2 h)]; rfl]
              simp only [hs2, hn1, hn2, if_true, decide_false]
              exact Ev.now _
          · rw [show (if s = (⟨#[]⟩ : ByteArray) ∧ -1000000000 ≤ n ∧ n ≤ 1000000000 then some (Lx.Piece.num n) else none).isSome = false by rw [if_neg (by rintro ⟨_, h, _⟩; exact hn1 h)]; rfl]
            simp only [hs2, hn1, if_true, if_false]
            exact Ev.now _
        · have hs2 : ¬ s.toList = [] := by
            intro h
            exact hs ((toList_inj s ⟨#[]⟩).1 (by rw [h, bs_toList]))
          rw [show (if s = (⟨#[]⟩ : ByteArray) ∧ -1000000000 ≤ n ∧ n ≤ 1000000000 then some (Lx.Piece.num n) else none).isSome = false by rw [if_neg (by rintro ⟨h, _⟩; exact hs h)]; rfl]
          simp only [hs2, if_false]
          exact Ev.now _
      · by_cases h4 : k = 4
        · subst h4
          have e1 : ¬ ((4 : Int) = 1) := by omega
          have e2 : ¬ ((4 : Int) = 2) := by omega
          have e3 : ¬ ((4 : Int) = 3) := by omega
          simp only [e1, e2, e3, if_true, if_false]
          by_cases h20 : s.size ≤ 20
          · have c20 : (s.size : Int) ≤ 20 := by omega
            have hst := ev_stuff s (by omega) _ 0 0 (Nat.zero_le _) rfl
            rw [Nat.zero_add, Nat.zero_add, List.drop_zero] at hst
            have hra := run_all Lx.isTxt s.data.toList
            have hlen : s.data.toList.length = s.size := by simp
            rw [hlen] at hra
            simp only [c20, if_true]
            refine Ev.bind (f := fun k (t : Int) => some (t == (s.size : Int))) hst ?_
            rw [int_beq, hra]
            cases ha : s.data.toList.all Lx.isTxt
            · rw [show (if s.size ≤ 20 ∧ false = true then some (Lx.Piece.str s.data.toList) else none).isSome = false by rw [if_neg (by rintro ⟨_, h⟩; cases h)]; rfl]
              exact Ev.now _
            · rw [show (if s.size ≤ 20 ∧ true = true then some (Lx.Piece.str s.data.toList) else none).isSome = true by rw [if_pos ⟨h20, rfl⟩]; rfl]
              exact Ev.now _
          · have c20 : ¬ (s.size : Int) ≤ 20 := by omega
            rw [show (if s.size ≤ 20 ∧ s.data.toList.all Lx.isTxt = true then some (Lx.Piece.str s.data.toList) else none).isSome = false by rw [if_neg (by rintro ⟨h, _⟩; exact h20 h)]; rfl]
            simp only [c20, if_false]
            exact Ev.now _
        · by_cases h5 : k = 5
          · subst h5
            have e1 : ¬ ((5 : Int) = 1) := by omega
            have e2 : ¬ ((5 : Int) = 2) := by omega
            have e3 : ¬ ((5 : Int) = 3) := by omega
            have e4 : ¬ ((5 : Int) = 4) := by omega
            have ha := ev_among (Lx.signWords.map bsOf) (by decide) s _ 0 (Nat.zero_le _) rfl
            rw [List.drop_zero, memB_map] at ha
            simp only [e1, e2, e3, e4, if_true, if_false, signs_eq, Option.bind_some]
            refine Ev.bind (f := fun k (t : Bool) => some t) (a := Lx.signWords.contains s.data.toList) ?_ ?_
            · exact Ev.congr (fun k => rfl) ha
            · cases hc : Lx.signWords.contains s.data.toList
              · rw [show (if s.data.toList ∈ Lx.signWords then some (Lx.Piece.sgn s.data.toList) else none).isSome = false by rw [if_neg (by intro h; rw [← List.contains_iff_mem, hc] at h; cases h)]; rfl]
                exact Ev.now _
              · rw [show (if s.data.toList ∈ Lx.signWords then some (Lx.Piece.sgn s.data.toList) else none).isSome = true by rw [if_pos (List.contains_iff_mem.1 hc)]; rfl]
                exact Ev.now _
          · simp only [h1, h2, h3, h4, h5, if_false, Option.isSome_none]
            exact Ev.now _
theorem ev_tok1 (x : S) : Ev (fun k => swardref02_Token.j0 k true x.f0 x.f1 x.f2 x.f3) false := by
  refine Ev.succ ?_
  simp only [swardref02_Token.j0, if_true]
  exact Ev.now _
theorem ev_Token (x : S) : Ev (fun k => swardref02_Token.f k x.f0 x.f1 x.f2 x.f3) (tokenB x) := by
  by_cases hx : x.f3 < 0 ∨ 4000 < x.f3 ∨ (x.f0 ≠ 3 ∧ x.f2 ≠ 0)
  · have hf : tokenB x = false := by
      unfold tokenB Lx.pieceOf
      rw [if_pos (show (sT x).f3 < 0 ∨ 4000 < (sT x).f3 ∨ ((sT x).f0 ≠ 3 ∧ (sT x).f2 ≠ 0) from hx)]
      rfl
    rw [hf]
    unfold swardref02_Token.f
    by_cases h1 : x.f3 < 0
    · simp only [h1, if_true]
      exact ev_tok1 x
    · by_cases h2 : x.f3 > 4000
      · simp only [h1, h2, if_true, if_false]
        exact ev_tok1 x
      · have h3 : ¬ x.f0 = 3 := by omega
        have h4 : (x.f2 != 0) = true := by rw [bne_iff_ne]; omega
        simp only [h1, h2, h3, h4, if_false]
        exact ev_tok1 x
  · have h1 : ¬ x.f3 < 0 := by omega
    have h2 : ¬ x.f3 > 4000 := by omega
    unfold swardref02_Token.f
    by_cases h3 : x.f0 = 3
    · simp only [h1, h2, h3, if_true, if_false]
      rw [← h3]
      exact ev_tok0 x hx
    · have h4 : (x.f2 != 0) = false := by
        have : x.f2 = 0 := by omega
        rw [this]; rfl
      simp only [h1, h2, h3, h4, if_false]
      exact ev_tok0 x hx
theorem ev_All_l (xs : List S) (hx : xs.length ≤ 1000000000000000) : ∀ (n i : Nat), i ≤ xs.length → xs.length - i = n → Ev (fun k => swardref02_All.l0 k xs i) ((xs.drop i).all tokenB) := by
  intro n
  induction n with
  | zero =>
    intro i hi hn
    have h1 : ¬ ((i : Int) < (xs.length : Int)) := by omega
    have he : xs.drop i = [] := List.drop_of_length_le (by omega)
    rw [he]
    refine Ev.succ ?_
    simp only [swardref02_All.l0, h1, if_false]
    exact Ev.now _
  | succ n ih =>
    intro i hi hn
    have hlt : i < xs.length := by omega
    have ih0 := ih (i + 1) (by omega) (by omega)
    have h1 : (i : Int) < (xs.length : Int) := by omega
    have h2 : (0 : Int) ≤ (i : Int) := Int.natCast_nonneg _
    have hw := wrap_succ i (by omega)
    rw [List.drop_eq_getElem_cons hlt, List.all_cons]
    refine Ev.succ ?_
    simp only [swardref02_All.l0, h1, h2, if_true, rd_S xs i hlt, hw]
    refine Ev.bind (f := fun k (t : Bool) => if t = true then swardref02_All.l0 k xs ((i + 1 : Nat) : Int) else some false) (ev_Token xs[i]) ?_
    cases hb : tokenB xs[i]
    · simp only [Bool.false_eq_true, if_false, Bool.false_and]
      exact Ev.now _
    · simp only [if_true, Bool.true_and]
      exact ih0
theorem ev_All (xs : List S) (hx : xs.length ≤ 1000000000000000) : Ev (fun k => swardref02_All.f k xs) (xs.all tokenB) := by
  have := ev_All_l xs hx _ 0 (Nat.zero_le _) rfl
  rw [List.drop_zero] at this
  exact this
def fewB (xs : List S) : Bool := (xs.take 61).all (fun x => decide (x.f1.size ≤ 40)) && decide (xs.length ≤ 60)
theorem ev_few_l (xs : List S) : ∀ (n i : Nat), i ≤ 61 → 61 - i = n → Ev (fun k => swardlaw02_few.l0 k xs i) (((xs.take 61).drop i).all (fun x => decide (x.f1.size ≤ 40)) && decide (xs.length ≤ 60)) := by
  have hz : decide ((xs.length : Int) ≤ 60) = decide (xs.length ≤ 60) := by rw [decide_eq_decide]; omega
  intro n
  induction n with
  | zero =>
    intro i hi hn
    have he : (xs.take 61).drop i = [] := List.drop_of_length_le (by rw [List.length_take]; omega)
    have h6 : decide ((i : Int) < 61) = false := decide_eq_false (by omega)
    rw [he, List.all_nil, Bool.true_and]
    refine Ev.succ ?_
    simp only [swardlaw02_few.l0, h6, ite_self]
    refine Ev.succ ?_
    simp only [swardlaw02_few.j1, Bool.false_eq_true, if_false, hz]
    exact Ev.now _
  | succ n ih =>
    intro i hi hn
    have ih0 := ih (i + 1) (by omega) (by omega)
    by_cases hlt : i < xs.length
    · have h1 : (i : Int) < (xs.length : Int) := by omega
      have h2 : (0 : Int) ≤ (i : Int) := Int.natCast_nonneg _
      have h6 : decide ((i : Int) < 61) = true := decide_eq_true (by omega)
      have hw := wrap_succ i (by omega)
      have hlt2 : i < (xs.take 61).length := by rw [List.length_take]; omega
      have hg : (xs.take 61)[i] = xs[i] := List.getElem_take
      rw [List.drop_eq_getElem_cons hlt2, List.all_cons, hg]
      refine Ev.succ ?_
      simp only [swardlaw02_few.l0, h1, h6, if_true]
      refine Ev.succ ?_
      simp only [swardlaw02_few.j1, h1, h2, if_true, rd_S xs i hlt, hw]
      by_cases h40 : xs[i].f1.size ≤ 40
      · have c40 : ¬ ((xs[i].f1.size : Int) > 40) := by omega
        simp only [c40, if_false, decide_eq_true h40, Bool.true_and]
        exact ih0
      · have c40 : (xs[i].f1.size : Int) > 40 := by omega
        simp only [c40, if_true, decide_eq_false h40, Bool.false_and]
        exact Ev.now _
    · have h1 : ¬ ((i : Int) < (xs.length : Int)) := by omega
      have he : (xs.take 61).drop i = [] := List.drop_of_length_le (by rw [List.length_take]; omega)
      rw [he, List.all_nil, Bool.true_and]
      refine Ev.succ ?_
      simp only [swardlaw02_few.l0, h1, if_false]
      refine Ev.succ ?_
      simp only [swardlaw02_few.j1, Bool.false_eq_true, if_false, hz]
      exact Ev.now _
theorem ev_few (xs : List S) : Ev (fun k => swardlaw02_few.f k xs) (fewB xs) := by
  have := ev_few_l xs _ 0 (Nat.zero_le _) rfl
  rw [List.drop_zero] at this
  exact this
theorem fewB_iff (xs : List S) (h : fewB xs = true) : xs.length ≤ 60 ∧ ∀ x ∈ xs, x.f1.size ≤ 40 := by
  unfold fewB at h
  rw [Bool.and_eq_true, decide_eq_true_iff, List.all_eq_true] at h
  obtain ⟨h1, h2⟩ := h
  rw [List.take_of_length_le (by omega)] at h1
  exact ⟨h2, fun x hx => by simpa using h1 x hx⟩
end Go.Proofs.YtkijoeihkajlcaaGreatDoor.PAll

set_option linter.unusedVariables false
set_option linter.unusedSimpArgs false
namespace Go.Proofs.YtkijoeihkajlcaaGreatDoor.PAll
open Go.RowKit Go.Shelf
open Go.Proofs.YtkijoeihkajlcaaGreatDoorW.PrintWords

theorem cipher_f (c : UInt8) : swardref02_cipher.f (c.toNat : Int) = some (Lx.isDig c) := by
  unfold swardref02_cipher.f Lx.isDig
  split
  · rename_i h
    have a : decide (48 ≤ c.toNat) = true := decide_eq_true (by omega)
    rw [a, Bool.true_and]
    congr 1
    rw [decide_eq_decide]
    omega
  · rename_i h
    have a : decide (48 ≤ c.toNat) = false := decide_eq_false (by omega)
    rw [a, Bool.false_and]
theorem ev_letters (s : ByteArray) (hs : s.size ≤ 4200) : ∀ (n i m : Nat), i + m ≤ s.size → s.size - (i + m) = n →
    Ev (fun k => swardref02_letters.l0 k s i m) ((m + Lx.runL Lx.isLet (s.data.toList.drop (i + m)) : Nat) : Int) := by
  intro n
  induction n with
  | zero =>
    intro i m hi hn
    have he : s.data.toList.drop (i + m) = [] := List.drop_of_length_le (by simp; omega)
    rw [he]
    have hw : wrap64 ((i : Int) + m) = ((i + m : Nat) : Int) := by unfold wrap64; omega
    have h1 : ¬ (((i + m : Nat) : Int) < (s.size : Int)) := by omega
    refine Ev.succ ?_
    simp only [swardref02_letters.l0, hw, h1, if_false]
    exact Ev.now _
  | succ n ih =>
    intro i m hi hn
    have hlt : i + m < s.size := by omega
    have ih0 := ih i (m + 1) (by omega) (by omega)
    have hd := drop_cons s (i + m) hlt
    rw [hd]
    have hb := bt_nat s (i + m) hlt
    have hw : wrap64 ((i : Int) + m) = ((i + m : Nat) : Int) := by unfold wrap64; omega
    have hw1 : wrap64 ((m : Int) + 1) = ((m + 1 : Nat) : Int) := by unfold wrap64; omega
    have h1 : ((i + m : Nat) : Int) < (s.size : Int) := by omega
    have h2 : (0 : Int) ≤ ((i + m : Nat) : Int) := by omega
    refine Ev.succ ?_
    by_cases hl : Lx.isLet s[i + m] = true
    · simp only [swardref02_letters.l0, hw, h1, h2, if_true, hb, letter_f, Option.bind_some, hl, hw1]
      simp only [Lx.runL, hl, if_true]
      rw [show m + (Lx.runL Lx.isLet (s.data.toList.drop (i + m + 1)) + 1) = m + 1 + Lx.runL Lx.isLet (s.data.toList.drop (i + (m + 1))) by rw [show i + (m + 1) = i + m + 1 by omega]; omega]
      exact ih0
    · simp only [swardref02_letters.l0, hw, h1, h2, if_true, hb, letter_f, Option.bind_some, hl, if_false, Bool.false_eq_true]
      simp only [Lx.runL, hl, if_false, Bool.false_eq_true, Nat.add_zero]
      exact Ev.now _
theorem ev_ciphers (s : ByteArray) (hs : s.size ≤ 4200) : ∀ (n i m : Nat), i + m ≤ s.size → s.size - (i + m) = n →
    Ev (fun k => swardref02_ciphers.l0 k s i m) ((m + Lx.runL Lx.isDig (s.data.toList.drop (i + m)) : Nat) : Int) := by
  intro n
  induction n with
  | zero =>
    intro i m hi hn
    have he : s.data.toList.drop (i + m) = [] := List.drop_of_length_le (by simp; omega)
    rw [he]
    have hw : wrap64 ((i : Int) + m) = ((i + m : Nat) : Int) := by unfold wrap64; omega
    have h1 : ¬ (((i + m : Nat) : Int) < (s.size : Int)) := by omega
    refine Ev.succ ?_
    simp only [swardref02_ciphers.l0, hw, h1, if_false]
    exact Ev.now _
  | succ n ih =>
    intro i m hi hn
    have hlt : i + m < s.size := by omega
    have ih0 := ih i (m + 1) (by omega) (by omega)
    have hd := drop_cons s (i + m) hlt
    rw [hd]
    have hb := bt_nat s (i + m) hlt
    have hw : wrap64 ((i : Int) + m) = ((i + m : Nat) : Int) := by unfold wrap64; omega
    have hw1 : wrap64 ((m : Int) + 1) = ((m + 1 : Nat) : Int) := by unfold wrap64; omega
    have h1 : ((i + m : Nat) : Int) < (s.size : Int) := by omega
    have h2 : (0 : Int) ≤ ((i + m : Nat) : Int) := by omega
    refine Ev.succ ?_
    by_cases hl : Lx.isDig s[i + m] = true
    · simp only [swardref02_ciphers.l0, hw, h1, h2, if_true, hb, cipher_f, Option.bind_some, hl, hw1]
      simp only [Lx.runL, hl, if_true]
      rw [show m + (Lx.runL Lx.isDig (s.data.toList.drop (i + m + 1)) + 1) = m + 1 + Lx.runL Lx.isDig (s.data.toList.drop (i + (m + 1))) by rw [show i + (m + 1) = i + m + 1 by omega]; omega]
      exact ih0
    · simp only [swardref02_ciphers.l0, hw, h1, h2, if_true, hb, cipher_f, Option.bind_some, hl, if_false, Bool.false_eq_true]
      simp only [Lx.runL, hl, if_false, Bool.false_eq_true, Nat.add_zero]
      exact Ev.now _
/-- What the document's token says of a try. -/
def tokR (i : Nat) : Lx.Tried → Int × ByteArray × Int × Int × Int
  | .none => (0, ⟨#[]⟩, 0, i, 1)
  | .bad why => (0, ⟨#[]⟩, 0, i, why)
  | .got p _ => ((tokS (i, p)).f0, (tokS (i, p)).f1, (tokS (i, p)).f2, i, 0)
theorem ev_worded (s : ByteArray) (hs : s.size ≤ 4200) (i : Nat) (hi : i < s.size) (hl : Lx.isLet s[i] = true) :
    Ev (fun k => swardref02_worded.f k s i) (tokR i (Lx.letters (s.data.toList.drop i))) := by
  have hr := ev_letters s hs _ i 0 (by omega) rfl
  simp only [Nat.add_zero, Nat.zero_add] at hr
  obtain ⟨m, hm⟩ : ∃ m, m = Lx.runL Lx.isLet (s.data.toList.drop i) := ⟨_, rfl⟩
  rw [← hm] at hr
  have hle := Lx.runL_le Lx.isLet (s.data.toList.drop i)
  rw [← hm] at hle
  have hlen : (s.data.toList.drop i).length = s.size - i := by simp
  have hpos : 0 < m := by
    rw [hm, drop_cons s i hi]
    simp [Lx.runL, hl]
  have hex := ext_eq s i m (i + m) rfl
  have hw : wrap64 ((i : Int) + m) = ((i + m : Nat) : Int) := by unfold wrap64; omega
  have h1 : (0 : Int) ≤ (i : Int) := by omega
  have h2 : (i : Int) ≤ ((i + m : Nat) : Int) := by omega
  have h3 : ((i + m : Nat) : Int) ≤ (s.size : Int) := by omega
  have hK := ev_Key (bsOf ((s.data.toList.drop i).take m))
  have hbd : (bsOf ((s.data.toList.drop i).take m)).data.toList = (s.data.toList.drop i).take m := by simp [bsOf]
  rw [hbd] at hK
  have hsz : (bsOf ((s.data.toList.drop i).take m)).size = m := by rw [bsOf_size, List.length_take]; omega
  unfold Lx.letters
  rw [← hm, if_neg (by omega)]
  have hgo : Ev (fun k => (swardref02_letters.l0 k s i 0).bind fun t152 => if 0 ≤ (i : Int) then (if (i : Int) ≤ wrap64 (i + t152) then (if wrap64 (i + t152) ≤ (s.size : Int) then ((swardref02_Key.f k (s.extract (i : Int).toNat (wrap64 (i + t152)).toNat)).bind fun t153 => if t153 = true then some (2, s.extract (i : Int).toNat (wrap64 (i + t152)).toNat, 0, (i : Int), 0) else if ((s.extract (i : Int).toNat (wrap64 (i + t152)).toNat).size : Int) > 8 then some (0, ⟨#[]⟩, 0, (i : Int), 4) else some (1, s.extract (i : Int).toNat (wrap64 (i + t152)).toNat, 0, (i : Int), 0)) else none) else none) else none)
      (tokR i (if 8 < m ∧ Lx.isKey ((s.data.toList.drop i).take m) = false then .bad 4 else .got (.word ((s.data.toList.drop i).take m)) m)) := by
    refine Ev.bind hr ?_
    simp only [hw, h1, h2, h3, if_true, Int.toNat_natCast, hex]
    refine Ev.bind hK ?_
    rw [hsz]
    cases hk : Lx.isKey ((s.data.toList.drop i).take m)
    · by_cases h8 : 8 < m
      · have h8i : (m : Int) > 8 := by omega
        simp only [h8, h8i, if_true, Bool.false_eq_true, if_false, and_self, tokR]
        exact Ev.now _
      · have h8i : ¬ ((m : Int) > 8) := by omega
        simp only [h8, h8i, Bool.false_eq_true, if_false, false_and, tokR, tokS, tokK, tokT, tokN, hk]
        exact Ev.now _
    · simp only [if_true, Bool.true_eq_false, and_false, if_false, tokR, tokS, tokK, tokT, tokN, hk]
      exact Ev.now _
  exact hgo
end Go.Proofs.YtkijoeihkajlcaaGreatDoor.PAll

set_option linter.unusedVariables false
set_option linter.unusedSimpArgs false
namespace Go.Proofs.YtkijoeihkajlcaaGreatDoor.PAll
open Go.RowKit Go.Shelf
open Go.Proofs.YtkijoeihkajlcaaGreatDoorW.PrintWords

theorem ev_stringed (s : ByteArray) (hs : s.size ≤ 4200) (i : Nat) (hi : i < s.size) (hq : s[i] = 34) :
    Ev (fun k => swardref02_stringed.f k s i) (tokR i (Lx.quoted (s.data.toList.drop i))) := by
  have hr := ev_stuff s hs _ (i + 1) 0 (by omega) rfl
  simp only [Nat.add_zero, Nat.zero_add] at hr
  obtain ⟨m, hm⟩ : ∃ m, m = Lx.runL Lx.isTxt (s.data.toList.drop (i + 1)) := ⟨_, rfl⟩
  rw [← hm] at hr
  have hle := Lx.runL_le Lx.isTxt (s.data.toList.drop (i + 1))
  rw [← hm] at hle
  have hlen : (s.data.toList.drop (i + 1)).length = s.size - (i + 1) := by simp
  have hw1 : wrap64 ((i : Int) + 1) = ((i + 1 : Nat) : Int) := by unfold wrap64; omega
  have hw2 : wrap64 (((i + 1 : Nat) : Int) + m) = ((i + 1 + m : Nat) : Int) := by unfold wrap64; omega
  have hex := ext_eq s (i + 1) m (i + 1 + m) rfl
  have hgo : Ev (fun k => swardref02_stuff.f k s (wrap64 ((i : Int) + 1))) (m : Int) := by
    rw [hw1]
    exact hr
  unfold swardref02_stringed.f Lx.quoted
  rw [drop_tail, drop_headD s i hi, ← hm, if_neg (by rw [hq]; simp)]
  refine Ev.bind hgo ?_
  simp only [hw1, hw2]
  by_cases h1 : s.size ≤ i + 1 + m
  · have a1 : ((i + 1 + m : Nat) : Int) ≥ (s.size : Int) := by omega
    rw [if_pos (.inl (by omega))]
    simp only [a1, if_true]
    refine Ev.succ ?_
    simp only [swardref02_stringed.j0, if_true, tokR]
    exact Ev.now _
  · have a1 : ¬ (((i + 1 + m : Nat) : Int) ≥ (s.size : Int)) := by omega
    have a2 : (0 : Int) ≤ ((i + 1 + m : Nat) : Int) := by omega
    have a3 : ((i + 1 + m : Nat) : Int) < (s.size : Int) := by omega
    have hb := bt_nat s (i + 1 + m) (by omega)
    have hdd : ((s.data.toList.drop (i + 1)).drop m).headD 0 = s[i + 1 + m] := by
      rw [List.drop_drop]
      exact drop_headD s (i + 1 + m) (by omega)
    simp only [a1, a2, a3, if_true, if_false, hb]
    rw [hdd]
    by_cases h2 : s[i + 1 + m] = 34
    · have b1 : ((s[i + 1 + m].toNat : Int) != 34) = false := by rw [h2]; rfl
      rw [if_neg (fun h => h.elim (fun h => by omega) (fun h => h h2))]
      rw [b1]
      refine Ev.succ ?_
      by_cases h3 : 20 < m
      · have b3 : (m : Int) > 20 := by omega
        simp only [swardref02_stringed.j0, b3, if_true, if_false, Bool.false_eq_true, h3, tokR]
        exact Ev.now _
      · have b3 : ¬ ((m : Int) > 20) := by omega
        have c1 : (0 : Int) ≤ ((i + 1 : Nat) : Int) := by omega
        have c2 : ((i + 1 : Nat) : Int) ≤ ((i + 1 + m : Nat) : Int) := by omega
        have c3 : ((i + 1 + m : Nat) : Int) ≤ (s.size : Int) := by omega
        simp only [swardref02_stringed.j0, b3, if_true, if_false, Bool.false_eq_true, h3, hw1, hw2, c1, c2, c3, Int.toNat_natCast, hex, tokR, tokS, tokK, tokT, tokN]
        exact Ev.now _
    · have b1 : ((s[i + 1 + m].toNat : Int) != 34) = true := by
        rw [bne_iff_ne]
        intro h
        apply h2
        apply UInt8.toNat_inj.1
        show _ = 34
        omega
      rw [if_pos (.inr h2)]
      rw [b1]
      refine Ev.succ ?_
      simp only [swardref02_stringed.j0, if_true, tokR]
      exact Ev.now _

/-- What stands first of a list of signs, as bytes; none: no byte. -/
def signB (l : Lx.Bs) : List Lx.Bs → ByteArray
  | [] => ⟨#[]⟩
  | w :: ws => if w.isPrefixOf l then bsOf w else signB l ws
theorem signAt_B (l : Lx.Bs) : ∀ ws : List Lx.Bs, (∀ x ∈ ws, x ≠ []) → Lx.signAt l ws = if (signB l ws).toList = [] then .none else .got (.sgn (signB l ws).data.toList) (signB l ws).size
  | [], _ => by rw [show signB l [] = ⟨#[]⟩ from rfl, if_pos (by rw [bs_toList])]; rfl
  | w :: ws, h => by
    unfold Lx.signAt signB
    split
    · have hw : w ≠ [] := h w (by simp)
      rw [if_neg (by rw [bs_toList]; simpa [bsOf] using hw), bsOf_size]
      simp [bsOf]
    · exact signAt_B l ws (fun y hy => h y (by simp [hy]))
theorem ev_sign (s : ByteArray) (hs : s.size ≤ 4200) (i : Nat) (hi : i < s.size) (ws : List Lx.Bs) (hws : ws.length ≤ 100) (h2 : ∀ x ∈ ws, x.length ≤ 2) : ∀ (n j : Nat), j ≤ ws.length → ws.length - j = n →
    Ev (fun k => swardref02_sign.l0 k s i (ws.map bsOf) j) (signB (s.data.toList.drop i) (ws.drop j)) := by
  intro n
  induction n with
  | zero =>
    intro j hj hn
    have he : ws.drop j = [] := List.drop_of_length_le (by omega)
    have h1 : ¬ ((j : Int) < ((ws.map bsOf).length : Int)) := by simp; omega
    refine Ev.succ ?_
    simp only [swardref02_sign.l0, h1, if_false, he, signB]
    exact Ev.now _
  | succ n ih =>
    intro j hj hn
    have hlt : j < ws.length := by omega
    have ih0 := ih (j + 1) (by omega) (by omega)
    have hw := wrap_succ j (by omega)
    have a1 : (j : Int) < ((ws.map bsOf).length : Int) := by simp; omega
    have a2 : (0 : Int) ≤ (j : Int) := by omega
    have hr : rdOf ByteArray.empty (ws.map bsOf) (j : Int) = bsOf ws[j] := by simp [rdOf, List.getD_eq_getElem?_getD, List.getElem?_eq_getElem hlt]
    have hl2 := h2 _ (List.getElem_mem hlt)
    have hwz : wrap64 ((i : Int) + ((bsOf ws[j]).size : Int)) = ((i + ws[j].length : Nat) : Int) := by rw [bsOf_size]; unfold wrap64; omega
    have a4 : (0 : Int) ≤ (i : Int) := by omega
    have a5 : (i : Int) ≤ ((i + ws[j].length : Nat) : Int) := by omega
    rw [List.drop_eq_getElem_cons hlt]
    have hlen : (s.data.toList.drop i).length = s.size - i := by simp
    refine Ev.succ ?_
    by_cases hfit : i + ws[j].length ≤ s.size
    · have a3 : ((i + ws[j].length : Nat) : Int) ≤ (s.size : Int) := by omega
      have hex := ext_eq s i ws[j].length _ rfl
      have hpre : ws[j].isPrefixOf (s.data.toList.drop i) = true ↔ (s.data.toList.drop i).take ws[j].length = ws[j] := by
        rw [List.isPrefixOf_iff_prefix, List.prefix_iff_eq_take]
        exact eq_comm
      by_cases he : (s.data.toList.drop i).take ws[j].length = ws[j]
      · have e1 : (bsOf ((s.data.toList.drop i).take ws[j].length)).toList = (bsOf ws[j]).toList := by rw [he]
        simp only [swardref02_sign.l0, a1, a2, if_true, hr, hwz, a3, a4, a5, Int.toNat_natCast, hex, e1, signB, hpre.2 he]
        exact Ev.now _
      · have e1 : ¬ ((bsOf ((s.data.toList.drop i).take ws[j].length)).toList = (bsOf ws[j]).toList) := by
          intro h
          apply he
          simpa [bs_toList, bsOf] using h
        have e2 : ws[j].isPrefixOf (s.data.toList.drop i) = false := by
          rw [Bool.eq_false_iff]
          exact fun h => he (hpre.1 h)
        simp only [swardref02_sign.l0, a1, a2, if_true, hr, hwz, a3, a4, a5, Int.toNat_natCast, hex, e1, if_false, hw, signB, e2, Bool.false_eq_true]
        exact ih0
    · have a3 : ¬ (((i + ws[j].length : Nat) : Int) ≤ (s.size : Int)) := by omega
      have e2 : ws[j].isPrefixOf (s.data.toList.drop i) = false := by
        rw [Bool.eq_false_iff]
        intro h
        have := (List.isPrefixOf_iff_prefix.1 h).length_le
        omega
      simp only [swardref02_sign.l0, a1, a2, if_true, hr, hwz, a3, if_false, hw, signB, e2, Bool.false_eq_true]
      exact ih0
theorem ev_sign_f (s : ByteArray) (hs : s.size ≤ 4200) (i : Nat) (hi : i < s.size) : Ev (fun k => swardref02_sign.f k s i) (signB (s.data.toList.drop i) Lx.signWords) := by
  have h := ev_sign s hs i hi Lx.signWords (by decide) (by decide) _ 0 (Nat.zero_le _) rfl
  rw [List.drop_zero] at h
  refine Ev.congr (fun k => ?_) h
  unfold swardref02_sign.f
  rw [signs_eq]
  rfl
end Go.Proofs.YtkijoeihkajlcaaGreatDoor.PAll

set_option linter.unusedVariables false
set_option linter.unusedSimpArgs false
namespace Go.Proofs.YtkijoeihkajlcaaGreatDoor.PAll
open Go.RowKit Go.Shelf
open Go.Proofs.YtkijoeihkajlcaaGreatDoorW.PrintWords

theorem fig_big (c : UInt8) (l : Lx.Bs) (h1 : Lx.isDig c = true) (h2 : c ≠ 48) (h3 : 10 ≤ l.length) : 1000000000 < valF (c :: l) 0 := by
  have hc := dig_bounds h1
  have hc2 : c.toNat ≠ 48 := fun h => h2 (UInt8.toNat_inj.1 h)
  rw [valF_cons]
  have h := valF_pow l (10 * 0 + (c.toNat - 48))
  have hp : 10 ^ 10 ≤ 10 ^ l.length := Nat.pow_le_pow_right (by omega) h3
  have : 1 * 10 ^ l.length ≤ (10 * 0 + (c.toNat - 48)) * 10 ^ l.length := Nat.mul_le_mul_right _ (by omega)
  omega

theorem ev_fig (b : ByteArray) (hb : b.size ≤ 10) (hd : ∀ c ∈ b.data.toList, Lx.isDig c = true) : ∀ (n i X : Nat), i ≤ b.size → b.size - i = n → X < 10 ^ i →
    Ev (fun k => swardref02_Figures.l0 k b (X : Int) (i : Int)) (((valF (b.data.toList.drop i) X : Nat) : Int), decide (((valF (b.data.toList.drop i) X : Nat) : Int) ≤ 1000000000)) := by
  intro n
  induction n with
  | zero =>
    intro i X hi hn hX
    have he : b.data.toList.drop i = [] := List.drop_of_length_le (by simp; omega)
    have h1 : ¬ ((i : Int) < (b.size : Int)) := by omega
    refine Ev.succ ?_
    simp only [swardref02_Figures.l0, h1, if_false, he]
    exact Ev.now _
  | succ n ih =>
    intro i X hi hn hX
    have hlt : i < b.size := by omega
    have hcd := hd b[i] (by
      have : b[i] = b.data.toList[i]'(by simpa using hlt) := rfl
      rw [this]
      exact List.getElem_mem _)
    have hc := dig_bounds hcd
    have hp : 10 ^ i ≤ 10 ^ 9 := Nat.pow_le_pow_right (by omega) (by omega)
    have hX9 : X < 1000000000 := by omega
    have ih0 := ih (i + 1) (10 * X + (b[i].toNat - 48)) (by omega) (by omega) (by rw [Nat.pow_succ]; omega)
    have hbt := bt_nat b i hlt
    have hw := wrap_succ i (by omega)
    have h1 : (i : Int) < (b.size : Int) := by omega
    have h2 : (0 : Int) ≤ (i : Int) := by omega
    have hm : wrap64 ((wrap64 (10 * (X : Int))) + ((((b[i].toNat : Nat) : Int) - 48) % 256)) = ((10 * X + (b[i].toNat - 48) : Nat) : Int) := by
      have e1 : wrap64 (10 * (X : Int)) = 10 * (X : Int) := by unfold wrap64; omega
      rw [e1]
      have e2 : (((b[i].toNat : Nat) : Int) - 48) % 256 = ((b[i].toNat - 48 : Nat) : Int) := by omega
      rw [e2]
      unfold wrap64
      omega
    rw [drop_cons b i hlt, valF_cons]
    refine Ev.succ ?_
    simp only [swardref02_Figures.l0, h1, h2, if_true, hbt, hm, hw]
    exact ih0

theorem runL_all (p : UInt8 → Bool) : ∀ (l : Lx.Bs), ∀ c ∈ l.take (Lx.runL p l), p c = true
  | [], c, h => by simp at h
  | x :: l, c, h => by
    unfold Lx.runL at h
    split at h
    · rename_i hx
      rw [List.take_succ_cons, List.mem_cons] at h
      rcases h with rfl | h
      · exact hx
      · exact runL_all p l c h
    · simp at h

/-- What Figures says. -/
theorem ev_Figures (d : Lx.Bs) (hd : ∀ c ∈ d, Lx.isDig c = true) (hpos : 0 < d.length) (hlen : d.length ≤ 4200) :
    ∃ V ok, Ev (fun k => swardref02_Figures.f k (bsOf d)) (V, ok) ∧
      (ok = true → ¬ (1 < d.length ∧ d.headD 0 = 48) ∧ V = Lx.figure d ∧ ¬ (1000000000 < Lx.figure d)) ∧
      (ok = false → (1 < d.length ∧ d.headD 0 = 48) ∨ 1000000000 < Lx.figure d) := by
  have hsz := bsOf_size d
  have hfv := fig_val d 0 hd
  have z0 : ¬ (((bsOf d).size : Int) = 0) := by omega
  by_cases h10 : 10 < d.length
  · refine ⟨0, false, ?_, fun h => (by cases h), fun _ => ?_⟩
    · have z1 : ((bsOf d).size : Int) > 10 := by omega
      refine Ev.succ ?_
      simp only [swardref02_Figures.f, z0, z1, if_false, if_true, swardref02_Figures.j0]
      exact Ev.now _
    · by_cases h48 : d.headD 0 = 48
      · exact .inl ⟨by omega, h48⟩
      · right
        match d, hpos with
        | c :: l, _ =>
          have hb := fig_big c l (hd c (by simp)) (by simpa using h48) (by simp at h10; omega)
          exact hfv.2 hb
  · have z1 : ¬ (((bsOf d).size : Int) > 10) := by omega
    have hmain := ev_fig (bsOf d) (by omega) (by simpa [bsOf] using hd) _ 0 0 (Nat.zero_le _) rfl (by simp)
    rw [List.drop_zero, show (bsOf d).data.toList = d by simp [bsOf]] at hmain
    by_cases h48 : 1 < d.length ∧ d.headD 0 = 48
    · refine ⟨0, false, ?_, fun h => (by cases h), fun _ => .inl h48⟩
      have z2 : ((bsOf d).size : Int) > 1 := by omega
      have z3 : (0 : Int) < ((bsOf d).size : Int) := by omega
      have hb0 : bt (bsOf d) 0 = 48 := by
        have := bt_nat (bsOf d) 0 (by omega)
        have hx : (bsOf d)[0]'(by omega) = 48 := by
          rw [← drop_headD (bsOf d) 0 (by omega), List.drop_zero, show (bsOf d).data.toList = d by simp [bsOf]]
          exact h48.2
        rw [hx] at this
        exact this
      refine Ev.succ ?_
      simp only [swardref02_Figures.f, z0, z1, z2, z3, if_false, if_true, hb0, swardref02_Figures.j0, beq_self_eq_true]
      exact Ev.now _
    · have hf : Ev (fun k => swardref02_Figures.f k (bsOf d)) (((valF d 0 : Nat) : Int), decide (((valF d 0 : Nat) : Int) ≤ 1000000000)) := by
        by_cases h1 : 1 < d.length
        · have z2 : ((bsOf d).size : Int) > 1 := by omega
          have z3 : (0 : Int) < ((bsOf d).size : Int) := by omega
          have hb0 : (bt (bsOf d) 0 == 48) = false := by
            have := bt_nat (bsOf d) 0 (by omega)
            have hx : (bsOf d)[0]'(by omega) = d.headD 0 := by
              rw [← drop_headD (bsOf d) 0 (by omega), List.drop_zero, show (bsOf d).data.toList = d by simp [bsOf]]
            rw [hx] at this
            rw [show bt (bsOf d) 0 = ((d.headD 0).toNat : Int) from this, beq_eq_false_iff_ne]
            intro h
            apply h48
            refine ⟨h1, UInt8.toNat_inj.1 ?_⟩
            show _ = 48
            omega
          refine Ev.succ ?_
          simp only [swardref02_Figures.f, z0, z1, z2, z3, if_false, if_true, hb0, swardref02_Figures.j0, Bool.false_eq_true]
          exact hmain
        · have z2 : ¬ (((bsOf d).size : Int) > 1) := by omega
          refine Ev.succ ?_
          simp only [swardref02_Figures.f, z0, z1, z2, if_false, swardref02_Figures.j0, Bool.false_eq_true]
          exact hmain
      by_cases hv : valF d 0 ≤ 1000000000
      · refine ⟨_, _, hf, fun _ => ⟨h48, (hfv.1 hv).symm, ?_⟩, fun h => ?_⟩
        · have := hfv.1 hv
          unfold Lx.figure
          rw [show (0 : Int) = ((0 : Nat) : Int) from rfl, this]
          omega
        · rw [decide_eq_false_iff_not] at h
          omega
      · refine ⟨_, _, hf, fun h => ?_, fun _ => .inr (hfv.2 (by omega))⟩
        rw [decide_eq_true_iff] at h
        omega
end Go.Proofs.YtkijoeihkajlcaaGreatDoor.PAll

set_option linter.unusedVariables false
set_option linter.unusedSimpArgs false
namespace Go.Proofs.YtkijoeihkajlcaaGreatDoor.PAll
open Go.RowKit Go.Shelf
open Go.Proofs.YtkijoeihkajlcaaGreatDoorW.PrintWords

theorem wrap_add (a m : Nat) (h : a + m < 9223372036854775807) : wrap64 ((a : Int) + m) = ((a + m : Nat) : Int) := by unfold wrap64; omega
theorem wrap_neg (V : Int) (h0 : 0 ≤ V) (h1 : V ≤ 1000000000) : wrap64 (-V) = -V := by unfold wrap64; omega
theorem fig_ge (l : Lx.Bs) (hd : ∀ c ∈ l, Lx.isDig c = true) : 0 ≤ Lx.figure l := by
  have h := fig_val l 0 hd
  unfold Lx.figure
  by_cases hv : valF l 0 ≤ 1000000000
  · rw [show (0 : Int) = ((0 : Nat) : Int) from rfl, h.1 hv]
    omega
  · have := h.2 (by omega)
    rw [show (0 : Int) = ((0 : Nat) : Int) from rfl]
    omega

theorem ev_numbered (s : ByteArray) (hs : s.size ≤ 4200) (i : Nat) (hi : i < s.size) :
    Ev (fun k => swardref02_numbered.f k s i) (tokR i (Lx.digits (s.data.toList.drop i))) := by
  have hb := bt_nat s i hi
  have h0 : (0 : Int) ≤ (i : Int) := by omega
  have h1 : (i : Int) < (s.size : Int) := by omega
  obtain ⟨T, hT⟩ : ∃ T, T = Lx.tilde (s.data.toList.drop i) := ⟨_, rfl⟩
  have hT2 : T = decide (s[i] = 126) := by
    rw [hT, Lx.tilde, drop_headD s i hi, Bool.eq_iff_iff, beq_iff_eq, decide_eq_true_iff]
  -- where the digits begin
  obtain ⟨a, ha⟩ : ∃ a, a = if T then i + 1 else i := ⟨_, rfl⟩
  have hia : i ≤ a ∧ a ≤ s.size := by rw [ha]; split <;> omega
  have haT := Lib.hid (show a = i + (if T then 1 else 0) by rw [ha]; cases T <;> rfl)
  have hw0 := Lib.hid (wrap_succ i (by omega))
  have hd : Lx.afterTilde (s.data.toList.drop i) = s.data.toList.drop a := by
    unfold Lx.afterTilde
    rw [← hT, ha]
    cases T
    · simp
    · simp
  have hah := Lib.hid ha
  clear ha
  -- the rest, from there
  suffices hj : Ev (fun k => swardref02_numbered.j0 k s i a) (tokR i (Lx.digits (s.data.toList.drop i))) by
    unfold swardref02_numbered.f
    simp only [h0, h1, if_true, hb]
    by_cases ht : s[i] = 126
    · have e1 : (s[i].toNat : Int) = 126 := by rw [ht]; rfl
      rw [show a = i + 1 by rw [hah.out, hT2, decide_eq_true ht]; rfl] at hj
      simp only [e1, if_true, hw0.out]
      exact hj
    · have e1 : ¬ ((s[i].toNat : Int) = 126) := by
        intro h
        apply ht
        apply UInt8.toNat_inj.1
        show _ = 126
        omega
      rw [show a = i by rw [hah.out, hT2, decide_eq_false ht]; rfl] at hj
      simp only [e1, if_false]
      exact hj
  have hr := ev_ciphers s hs _ a 0 (by omega) rfl
  simp only [Nat.add_zero, Nat.zero_add] at hr
  unfold Lx.digits
  rw [hd, ← hT]
  obtain ⟨m, hm⟩ : ∃ m, m = Lx.runL Lx.isDig (s.data.toList.drop a) := ⟨_, rfl⟩
  rw [← hm] at hr
  have hle := Lx.runL_le Lx.isDig (s.data.toList.drop a)
  rw [← hm] at hle
  have hlen : (s.data.toList.drop a).length = s.size - a := by simp
  have hmt := runL_take_len Lx.isDig (s.data.toList.drop a)
  have hma := runL_all Lx.isDig (s.data.toList.drop a)
  rw [← hm] at hmt hma ⊢
  refine Ev.succ ?_
  simp only [swardref02_numbered.j0]
  refine Ev.bind (f := fun k t156 => if t156 = 0 then _ else _) (a := (m : Int)) ?_ ?_
  · exact Ev.congr (fun k => rfl) hr
  · by_cases hm0 : m = 0
    · have z : (m : Int) = 0 := by omega
      rw [if_pos hm0]
      simp only [z, if_true, tokR]
      exact Ev.now _
    · have z : ¬ ((m : Int) = 0) := by omega
      rw [if_neg hm0]
      simp only [z, if_false]
      refine Ev.bind (f := fun k t157 => _) (a := (m : Int)) ?_ ?_
      · exact Ev.congr (fun k => rfl) hr
      · have c1 : (0 : Int) ≤ (a : Int) := Int.natCast_nonneg _
        have hams : a + m ≤ s.size := by rw [hlen] at hle; omega
        have c2 : (a : Int) ≤ ((a + m : Nat) : Int) := by omega
        have c3 : ((a + m : Nat) : Int) ≤ (s.size : Int) := by omega
        have p1 : 0 < ((s.data.toList.drop a).take m).length := by rw [hmt]; omega
        have p2 : ((s.data.toList.drop a).take m).length ≤ 4200 := by rw [hmt]; omega
        have p3 : 0 < m := by omega
        have hex := ext_eq s a m (a + m) rfl
        have hw := wrap_add a m (by omega)
        simp only [hw, c1, c2, c3, if_true, Int.toNat_natCast, hex]
        obtain ⟨V, ok, hF, hok, hno⟩ := ev_Figures ((s.data.toList.drop a).take m) hma p1 p2
        rw [hmt, headD_take _ _ p3] at hok hno
        clear hw
        refine Ev.bind (f := fun k bt158 => _) (a := (V, ok)) hF ?_
        cases ok
        · have hbad : (1 < m ∧ (s.data.toList.drop a).headD 0 = 48) ∨ (Lx.figure ((s.data.toList.drop a).take m) = 0 ∧ T = true) ∨ 1000000000 < Lx.figure ((s.data.toList.drop a).take m) := by
            rcases hno rfl with h | h
            · exact .inl h
            · exact .inr (.inr h)
          rw [if_pos hbad]
          simp only [Bool.false_eq_true, if_false]
          refine Ev.succ ?_
          simp only [swardref02_numbered.j1, if_true, tokR]
          exact Ev.now _
        · obtain ⟨h48, hV, hV9⟩ := hok rfl
          simp only [if_true]
          cases T
          · have hai : ¬ ((a : Int) > (i : Int)) := by rw [haT.out]; simp
            rw [if_neg (fun h => h.elim h48 (fun h => h.elim (fun h => by cases h.2) hV9))]
            simp only [hai, if_false]
            refine Ev.succ ?_
            simp only [swardref02_numbered.j1, hai, Bool.false_eq_true, if_false, tokR, tokS, tokK, tokT, tokN, hV]
            exact Ev.now _
          · have hai : ((a : Int) > (i : Int)) := by rw [haT.out]; simp; omega
            simp only [hai, if_true]
            by_cases hz : Lx.figure ((s.data.toList.drop a).take m) = 0
            · rw [if_pos (.inr (.inl ⟨hz, trivial⟩))]
              have e : (V == 0) = true := by rw [hV, hz]; rfl
              rw [e]
              refine Ev.succ ?_
              simp only [swardref02_numbered.j1, if_true, tokR]
              exact Ev.now _
            · rw [if_neg (fun h => h.elim h48 (fun h => h.elim (fun h => hz h.1) hV9))]
              have e : (V == 0) = false := by rw [hV]; simpa using hz
              rw [e]
              have hge : 0 ≤ Lx.figure ((s.data.toList.drop a).take m) := fig_ge _ hma
              have hwn := wrap_neg _ hge (Int.not_lt.1 hV9)
              refine Ev.succ ?_
              simp only [swardref02_numbered.j1, hai, Bool.false_eq_true, if_false, if_true, tokR, tokS, tokK, tokT, tokN, hV, hwn]
              exact Ev.now _

theorem ev_token (s : ByteArray) (hs : s.size ≤ 4200) (i : Nat) (hi : i < s.size) :
    Ev (fun k => swardref02_token.f k s i) (tokR i (Lx.piece (s.data.toList.drop i))) := by
  have hb := bt_nat s i hi
  have h0 : (0 : Int) ≤ (i : Int) := Int.natCast_nonneg _
  have h1 : (i : Int) < (s.size : Int) := by omega
  have hhd := drop_headD s i hi
  unfold swardref02_token.f
  simp only [h0, h1, if_true, hb, letter_f, cipher_f, Option.bind_some]
  have hLet : Lx.isLet s[i] = false → Lx.letters (s.data.toList.drop i) = .none := by
    intro h
    unfold Lx.letters
    rw [drop_cons s i hi]
    simp [Lx.runL, h]
  by_cases hl : Lx.isLet s[i] = true
  · have hp : Lx.piece (s.data.toList.drop i) = Lx.letters (s.data.toList.drop i) := by
      have hn : Lx.letters (s.data.toList.drop i) ≠ .none := by
        unfold Lx.letters
        have hpos : Lx.runL Lx.isLet (s.data.toList.drop i) ≠ 0 := by
          rw [drop_cons s i hi]
          simp [Lx.runL, hl]
        rw [if_neg hpos]
        split <;> simp
      unfold Lx.piece Lx.tried
      cases hx : Lx.letters (s.data.toList.drop i) with
      | none => exact absurd hx hn
      | bad w => rfl
      | got p n => rfl
    rw [hp]
    simp only [hl, if_true]
    have hw := ev_worded s hs i hi hl
    refine Ev.bind (f := fun k bt => some (bt.1, bt.2.1, bt.2.2.1, bt.2.2.2.1, bt.2.2.2.2)) hw ?_
    exact Ev.now _
  · have hl' : Lx.isLet s[i] = false := by simpa using hl
    have hln := hLet hl'
    simp only [hl, if_false, Bool.false_eq_true]
    have htr : Lx.tried (s.data.toList.drop i) = Lx.orElse (Lx.digits (s.data.toList.drop i)) (Lx.orElse (Lx.quoted (s.data.toList.drop i)) (Lx.signed (s.data.toList.drop i))) := by
      unfold Lx.tried
      rw [hln]
      rfl
    by_cases hnum : Lx.isDig s[i] = true ∨ s[i] = 126
    · -- a number, or nothing
      have hpd : tokR i (Lx.piece (s.data.toList.drop i)) = tokR i (Lx.digits (s.data.toList.drop i)) := by
        unfold Lx.piece
        rw [htr]
        cases hx : Lx.digits (s.data.toList.drop i) with
        | bad w => rfl
        | got p n => rfl
        | none =>
          have h126 : s[i] = 126 := by
            rcases hnum with h | h
            · exfalso
              unfold Lx.digits at hx
              have ht : Lx.tilde (s.data.toList.drop i) = false := by
                rw [Lx.tilde, hhd]
                have := dig_bounds h
                rw [beq_eq_false_iff_ne]
                rintro h'
                rw [h'] at this
                exact absurd this (by decide)
              have haf : Lx.afterTilde (s.data.toList.drop i) = s.data.toList.drop i := by unfold Lx.afterTilde; rw [if_neg (by rw [ht]; simp)]
              have hpos : Lx.runL Lx.isDig (s.data.toList.drop i) ≠ 0 := by
                rw [drop_cons s i hi]
                simp [Lx.runL, h]
              rw [haf, if_neg hpos] at hx
              split at hx <;> cases hx
            · exact h
          have hq : Lx.quoted (s.data.toList.drop i) = .none := by
            unfold Lx.quoted
            rw [hhd, if_pos (by rw [h126]; decide)]
          have hsg : Lx.signed (s.data.toList.drop i) = .none := by
            rw [drop_cons s i hi, h126]
            simp [Lx.signed, Lx.signWords, Lx.signAt]
          rw [hq, hsg]
          rfl
      rw [hpd]
      have hn := ev_numbered s hs i hi
      have hj : Ev (fun k => swardref02_token.j0 k s i (s[i].toNat : Int) true) (tokR i (Lx.digits (s.data.toList.drop i))) := by
        refine Ev.succ ?_
        simp only [swardref02_token.j0, if_true]
        refine Ev.bind (f := fun k bt => some (bt.1, bt.2.1, bt.2.2.1, bt.2.2.2.1, bt.2.2.2.2)) hn ?_
        exact Ev.now _
      by_cases hdg : Lx.isDig s[i] = true
      · simp only [hdg, if_true]
        exact hj
      · have e : ((s[i].toNat : Int) == 126) = true := by
          rcases hnum with h | h
          · exact absurd h hdg
          · rw [h]; rfl
        simp only [hdg, if_false, Bool.false_eq_true, e]
        exact hj
    · have hdg : ¬ (Lx.isDig s[i] = true) := fun h => hnum (.inl h)
      have h126 : s[i] ≠ 126 := fun h => hnum (.inr h)
      have e : ((s[i].toNat : Int) == 126) = false := by
        rw [beq_eq_false_iff_ne]
        intro h
        apply h126
        apply UInt8.toNat_inj.1
        show _ = 126
        omega
      have hdn : Lx.digits (s.data.toList.drop i) = .none := by
        unfold Lx.digits
        have ht : Lx.tilde (s.data.toList.drop i) = false := by
          rw [Lx.tilde, hhd]
          exact beq_eq_false_iff_ne.2 h126
        have haf : Lx.afterTilde (s.data.toList.drop i) = s.data.toList.drop i := by unfold Lx.afterTilde; rw [if_neg (by rw [ht]; simp)]
        rw [haf, if_pos]
        rw [drop_cons s i hi]
        simp [Lx.runL, hdg]
      simp only [hdg, if_false, Bool.false_eq_true, e]
      refine Ev.succ ?_
      simp only [swardref02_token.j0, if_false, Bool.false_eq_true]
      by_cases hq : s[i] = 34
      · have e34 : (s[i].toNat : Int) = 34 := by rw [hq]; rfl
        have hpq : Lx.piece (s.data.toList.drop i) = Lx.quoted (s.data.toList.drop i) := by
          have hn : Lx.quoted (s.data.toList.drop i) ≠ .none := by
            unfold Lx.quoted
            rw [hhd, if_neg (by rw [hq]; simp)]
            split
            · simp
            · split <;> simp
          unfold Lx.piece
          rw [htr, hdn]
          cases hx : Lx.quoted (s.data.toList.drop i) with
          | none => exact absurd hx hn
          | bad w => rfl
          | got p n => rfl
        rw [hpq]
        simp only [e34, if_true]
        refine Ev.bind (f := fun k bt => some (bt.1, bt.2.1, bt.2.2.1, bt.2.2.2.1, bt.2.2.2.2)) (ev_stringed s hs i hi hq) ?_
        exact Ev.now _
      · have e34 : ¬ ((s[i].toNat : Int) = 34) := by
          intro h
          apply hq
          apply UInt8.toNat_inj.1
          show _ = 34
          omega
        have hqn : Lx.quoted (s.data.toList.drop i) = .none := by
          unfold Lx.quoted
          rw [hhd, if_pos hq]
        have hps : Lx.piece (s.data.toList.drop i) = match Lx.signed (s.data.toList.drop i) with | .none => .bad 1 | t => t := by
          unfold Lx.piece
          rw [htr, hdn, hqn]
          rfl
        rw [hps]
        simp only [e34, if_false]
        refine Ev.bind (f := fun k t191 => if t191.toList = ([] : List UInt8) then _ else _) (ev_sign_f s hs i hi) ?_
        have hsa := signAt_B (s.data.toList.drop i) Lx.signWords (by decide)
        unfold Lx.signed
        rw [hsa]
        by_cases hz : (signB (s.data.toList.drop i) Lx.signWords).toList = []
        · simp only [hz, if_true, tokR]
          exact Ev.now _
        · simp only [hz, if_false, tokR, tokS, tokK, tokT, tokN, bsOf]
          exact Ev.now _
end Go.Proofs.YtkijoeihkajlcaaGreatDoor.PAll

set_option linter.unusedVariables false
set_option linter.unusedSimpArgs false
namespace Go.Proofs.YtkijoeihkajlcaaGreatDoor.PAll
open Go.RowKit Go.Shelf
open Go.Proofs.YtkijoeihkajlcaaGreatDoorW.PrintWords

theorem digit_f (d : Nat) (h : d < 10) : swardref01_digit.f (d : Int) = some (bsOf [UInt8.ofNat (48 + d)]) := by
  unfold swardref01_digit.f
  have hw := wrap_succ d (by omega)
  have h1 : (0 : Int) ≤ (d : Int) := Int.natCast_nonneg _
  have h2 : (d : Int) ≤ ((d + 1 : Nat) : Int) := by omega
  have h3 : ((d + 1 : Nat) : Int) ≤ 10 := by omega
  simp only [hw, h1, h2, h3, if_true, Int.toNat_natCast]
  congr 1
  match d, h with
  | 0, _ => rfl
  | 1, _ => rfl
  | 2, _ => rfl
  | 3, _ => rfl
  | 4, _ => rfl
  | 5, _ => rfl
  | 6, _ => rfl
  | 7, _ => rfl
  | 8, _ => rfl
  | 9, _ => rfl

/-- One round of Decimal's loop: the digit. -/
theorem mx_digit (x : Int) (U : Nat) (hx : x = U ∨ x = -(U : Int)) (hU : U < 4000000000) : mx (Int.tmod x 10) (wrap64 (-(Int.tmod x 10))) = ((U % 10 : Nat) : Int) := by
  unfold mx wrap64
  rcases hx with rfl | rfl
  · rw [Int.tmod_eq_emod_of_nonneg (by omega)]
    split <;> omega
  · rw [Int.neg_tmod, Int.tmod_eq_emod_of_nonneg (by omega)]
    split <;> omega
theorem tdiv_ten (x : Int) (U : Nat) (hx : x = U ∨ x = -(U : Int)) (hU : U < 4000000000) : (wrap64 (Int.tdiv x 10) = ((U / 10 : Nat) : Int) ∧ x = U) ∨ (wrap64 (Int.tdiv x 10) = -((U / 10 : Nat) : Int) ∧ x = -(U : Int)) := by
  unfold wrap64
  rcases hx with rfl | rfl
  · left
    rw [Int.tdiv_eq_ediv_of_nonneg (by omega)]
    exact ⟨by omega, rfl⟩
  · right
    rw [Int.neg_tdiv, Int.tdiv_eq_ediv_of_nonneg (by omega)]
    exact ⟨by omega, rfl⟩

theorem ev_dec (a0 : Int) : ∀ (U : Nat) (x : Int) (acc : Lx.Bs), (x = U ∨ x = -(U : Int)) → U < 4000000000 → acc.length + Lib.nDigits U ≤ 100 →
    Ev (fun k => swardref01_Decimal.l0 k a0 (bsOf acc) x) (bsOf ((if a0 < 0 then [45] else []) ++ (Lib.decDigits U ++ acc))) := by
  intro U
  induction U using Nat.strongRecOn with
  | _ U ih =>
    intro x acc hx hU hlen
    have hm := mx_digit x U hx hU
    have htd := tdiv_ten x U hx hU
    have hdf := digit_f (U % 10) (Nat.mod_lt _ (by omega))
    have hcat : bsOf [UInt8.ofNat (48 + U % 10)] ++ bsOf acc = bsOf (UInt8.ofNat (48 + U % 10) :: acc) := by
      apply ByteArray.ext
      simp [bsOf]
    have hnp := Lib.nDigits_pos U
    have hsz : (bsOf [UInt8.ofNat (48 + U % 10)]).size + (bsOf acc).size ≤ 9223372036854775807 := by
      rw [bsOf_size, bsOf_size, List.length_singleton]
      omega
    have hsz2 : 1 + (bsOf (UInt8.ofNat (48 + U % 10) :: acc)).size ≤ 9223372036854775807 := by
      rw [bsOf_size, List.length_cons]
      omega
    refine Ev.succ ?_
    simp only [swardref01_Decimal.l0, hm, hdf, Option.bind_some, hsz, if_true, hcat]
    by_cases hz : U < 10
    · have hd0 : U / 10 = 0 := by omega
      have hmod : U % 10 = U := by omega
      have hw0 : wrap64 (Int.tdiv x 10) = 0 := by
        rcases htd with ⟨h, _⟩ | ⟨h, _⟩
        · rw [h, hd0]; rfl
        · rw [h, hd0]; rfl
      rw [Lib.decDigits_one hz]
      simp only [hw0, if_true, hmod] at hsz2 ⊢
      by_cases hneg : a0 < 0
      · simp only [hneg, if_true, hsz2]
        have : (⟨#[45]⟩ : ByteArray) ++ bsOf (UInt8.ofNat (48 + U) :: acc) = bsOf ([45] ++ ([UInt8.ofNat (48 + U)] ++ acc)) := by
          apply ByteArray.ext
          simp [bsOf]
        rw [this]
        exact Ev.now _
      · simp only [hneg, if_false]
        exact Ev.now _
    · have hw0 : ¬ (wrap64 (Int.tdiv x 10) = 0) := by
        rcases htd with ⟨h, _⟩ | ⟨h, _⟩ <;> rw [h] <;> omega
      have hx2 : wrap64 (Int.tdiv x 10) = ((U / 10 : Nat) : Int) ∨ wrap64 (Int.tdiv x 10) = -((U / 10 : Nat) : Int) := by
        rcases htd with ⟨h, _⟩ | ⟨h, _⟩
        · exact .inl h
        · exact .inr h
      have hnd := Lib.nDigits_big hz
      have hih := ih (U / 10) (by omega) (wrap64 (Int.tdiv x 10)) (UInt8.ofNat (48 + U % 10) :: acc) hx2 (by omega) (by rw [List.length_cons]; omega)
      rw [Lib.decDigits, dif_neg hz]
      simp only [hw0, if_false]
      rw [List.append_assoc]
      exact hih
end Go.Proofs.YtkijoeihkajlcaaGreatDoor.PAll

set_option linter.unusedVariables false
set_option linter.unusedSimpArgs false
namespace Go.Proofs.YtkijoeihkajlcaaGreatDoor.PAll
open Go.RowKit Go.Shelf
open Go.Proofs.YtkijoeihkajlcaaGreatDoorW.PrintWords

theorem ev_number (N : Int) (hN : -1000000000 ≤ N ∧ N ≤ 1000000000) : Ev (fun k => swardref02_number.f k N) (bsOf (Lx.spelled (.num N))) := by
  rw [spelled_num]
  have hnd : ∀ U : Nat, U ≤ 1000000000 → Lib.nDigits U ≤ 10 := by
    intro U hU
    rcases Nat.eq_zero_or_pos U with rfl | hp
    · rw [Lib.nDigits_small (by omega)]; omega
    · by_cases hx : U < 10 ^ 10
      · exact nd_le 10 U (by omega) hx
      · omega
  by_cases hneg : N < 0
  · obtain ⟨U, hU⟩ : ∃ U : Nat, N = -(U : Int) := ⟨N.natAbs, by omega⟩
    have hU9 : U ≤ 1000000000 := by omega
    have hd := ev_dec N U N [] (.inr hU) (by omega) (by have := hnd U hU9; simp; omega)
    rw [if_pos hneg] at hd
    rw [if_pos hneg]
    unfold swardref02_number.f
    simp only [hneg, if_true]
    refine Ev.bind (f := fun k t137 => _) hd ?_
    have hl := Lib.decDigits_length U
    have hn10 := hnd U hU9
    have hs1 : (bsOf ([45] ++ (Lib.decDigits U ++ []))).size = 1 + Lib.nDigits U := by rw [bsOf_size]; simp [hl]; omega
    have hex : (bsOf ([45] ++ (Lib.decDigits U ++ []))).extract 1 (bsOf ([45] ++ (Lib.decDigits U ++ []))).size = bsOf (Lib.decDigits U) := by
      rw [hs1, ext_eq _ 1 (Lib.nDigits U) (1 + Lib.nDigits U) rfl]
      congr 1
      simp [bsOf, ← hl]
    have hc1 : (1 : Int) ≤ ((bsOf ([45] ++ (Lib.decDigits U ++ []))).size : Int) := by rw [hs1]; omega
    have hc2 : 1 + (bsOf (Lib.decDigits U)).size ≤ 9223372036854775807 := by rw [bsOf_size, hl]; omega
    simp only [hc1, if_true, hex, hc2]
    have hfin : (⟨#[126]⟩ : ByteArray) ++ bsOf (Lib.decDigits U) = bsOf (126 :: Lib.itoa (-N)) := by
      have : Lib.itoa (-N) = Lib.decDigits U := by
        unfold Lib.itoa
        rw [if_neg (by omega), show (-N).toNat = U by omega]
      rw [this]
      apply ByteArray.ext
      simp [bsOf]
    rw [hfin]
    exact Ev.now _
  · obtain ⟨U, hU⟩ : ∃ U : Nat, N = (U : Int) := ⟨N.natAbs, by omega⟩
    have hU9 : U ≤ 1000000000 := by omega
    have hd := ev_dec N U N [] (.inl hU) (by omega) (by have := hnd U hU9; simp; omega)
    rw [if_neg hneg, List.append_nil, List.nil_append] at hd
    rw [if_neg hneg]
    have hfin : Lib.itoa N = Lib.decDigits U := by
      unfold Lib.itoa
      rw [if_neg hneg, show N.toNat = U by omega]
    rw [hfin]
    unfold swardref02_number.f
    simp only [hneg, if_false]
    refine Ev.bind (f := fun k t138 => some t138) hd ?_
    exact Ev.now _
end Go.Proofs.YtkijoeihkajlcaaGreatDoor.PAll

set_option linter.unusedVariables false
set_option linter.unusedSimpArgs false
namespace Go.Proofs.YtkijoeihkajlcaaGreatDoor.PAll
open Go.RowKit Go.Shelf
open Go.Proofs.YtkijoeihkajlcaaGreatDoorW.PrintWords

theorem ev_Word (p : Lx.Piece) (hp : PieceOk p) (at_ : Int) : Ev (fun k => swardref02_Word.f k (tokK p) (tokT p) (tokN p) at_) (bsOf (Lx.spelled p)) := by
  cases p with
  | word l =>
    have h3 : ¬ ((if Lx.isKey l then (2 : Int) else 1) = 3) := by split <;> omega
    have h4 : ¬ ((if Lx.isKey l then (2 : Int) else 1) = 4) := by split <;> omega
    simp only [swardref02_Word.f, tokK, tokT, tokN, h3, h4, if_false]
    exact Ev.now _
  | num N =>
    simp only [swardref02_Word.f, tokK, tokT, tokN, if_true]
    exact Ev.bind (f := fun k t140 => some t140) (ev_number N hp) (Ev.now _)
  | str l =>
    have h3 : ¬ ((4 : Int) = 3) := by omega
    have hl : l.length ≤ 4000 := hp
    have c1 : 1 + (bsOf l).size ≤ 9223372036854775807 := by rw [bsOf_size]; omega
    have hs : ((⟨#[34]⟩ : ByteArray) ++ bsOf l).size = 1 + (bsOf l).size := by rw [ByteArray.size_append]; rfl
    have c2 : ((⟨#[34]⟩ : ByteArray) ++ bsOf l).size + 1 ≤ 9223372036854775807 := by rw [hs, bsOf_size]; omega
    have hfin : ((⟨#[34]⟩ : ByteArray) ++ bsOf l) ++ (⟨#[34]⟩ : ByteArray) = bsOf (Lx.spelled (.str l)) := by
      apply ByteArray.ext
      simp [bsOf, Lx.spelled]
    simp only [swardref02_Word.f, tokK, tokT, tokN, h3, if_false, if_true, c1, c2, hfin]
    exact Ev.now _
  | sgn l =>
    have h3 : ¬ ((5 : Int) = 3) := by omega
    have h4 : ¬ ((5 : Int) = 4) := by omega
    simp only [swardref02_Word.f, tokK, tokT, tokN, h3, h4, if_false]
    exact Ev.now _

def toS (x : Nat × Lx.Piece) : S41 := ⟨tokK x.2, tokT x.2, tokN x.2, (x.1 : Int)⟩
def erR : Option (Nat × Int) → Int × Int
  | none => (0, 0)
  | some (p, y) => (p, y)
/-- No reason is 0. -/
theorem why_pos (l : Lx.Bs) (w : Int) (h : Lx.piece l = .bad w) : w ≠ 0 := by
  unfold Lx.piece at h
  have ht : ∀ t w, t = Lx.Tried.bad w → (t = Lx.letters l ∨ t = Lx.digits l ∨ t = Lx.quoted l) → w ≠ 0 := by
    rintro t w rfl (h | h | h)
    · unfold Lx.letters at h
      split at h
      · cases h
      · split at h
        · cases h; omega
        · cases h
    · unfold Lx.digits at h
      split at h
      · cases h
      · split at h
        · cases h; omega
        · cases h
    · unfold Lx.quoted at h
      split at h
      · cases h
      · split at h
        · cases h; omega
        · split at h
          · cases h; omega
          · cases h
  have hs : ∀ ws : List Lx.Bs, ∀ w, Lx.signAt l ws ≠ .bad w := by
    intro ws
    induction ws with
    | nil => intro w h; cases h
    | cons x ws ih =>
      intro w
      unfold Lx.signAt
      split
      · intro h; cases h
      · exact ih w
  split at h
  · cases h; omega
  · unfold Lx.tried at h
    cases h1 : Lx.letters l with
    | bad v => rw [h1] at h; cases h; exact ht _ w rfl (.inl h1.symm)
    | got p n => rw [h1] at h; cases h
    | none =>
      rw [h1] at h
      simp only [Lx.orElse] at h
      cases h2 : Lx.digits l with
      | bad v => rw [h2] at h; cases h; exact ht _ w rfl (.inr (.inl h2.symm))
      | got p n => rw [h2] at h; cases h
      | none =>
        rw [h2] at h
        simp only [Lx.orElse] at h
        cases h3 : Lx.quoted l with
        | bad v => rw [h3] at h; cases h; exact ht _ w rfl (.inr (.inr h3.symm))
        | got p n => rw [h3] at h; cases h
        | none =>
          rw [h3] at h
          exact absurd h (hs _ w)

theorem ev_Read_l (s : ByteArray) (hs : s.size ≤ 4200) : ∀ (g pos : Nat) (acc : List S41) , pos ≤ s.size → s.size - pos < g → acc.length + g ≤ 10000 →
    Ev (fun k => swardref02_Read.l0 k s acc pos) (acc ++ (Lx.readF g pos (s.data.toList.drop pos)).1.map toS, (erR (Lx.readF g pos (s.data.toList.drop pos)).2).1, (erR (Lx.readF g pos (s.data.toList.drop pos)).2).2) := by
  intro g
  induction g with
  | zero => intro pos acc h1 h2; omega
  | succ g ih =>
    intro pos acc hpos hg hacc
    by_cases hlt : pos < s.size
    · have h1 : (pos : Int) < (s.size : Int) := by omega
      have hne : s.data.toList.drop pos ≠ [] := by rw [drop_cons s pos hlt]; simp
      have ht := ev_token s hs pos hlt
      refine Ev.succ ?_
      simp only [swardref02_Read.l0, h1, if_true]
      cases hp : Lx.piece (s.data.toList.drop pos) with
      | none =>
        exfalso
        unfold Lx.piece at hp
        split at hp
        · cases hp
        · rename_i hx; exact hx hp
      | bad w =>
        rw [hp] at ht
        rw [readF_bad hne hp]
        have hw := why_pos _ w hp
        refine Ev.bind (f := fun k bt => _) ht ?_
        simp only [tokR, hw, if_false, erR, List.map_nil, List.append_nil]
        exact Ev.now _
      | got p n =>
        rw [hp] at ht
        have hfit := got_len _ p n hp
        have hlen : (s.data.toList.drop pos).length = s.size - pos := by simp
        rw [hlen] at hfit
        have hsz := got_size _ p n hp
        have hok : PieceOk p := Lx.good_ok p (Lx.good_piece _ p n hp).1
        have hsk := skipF_le (s.data.toList.drop (pos + n)) false
        simp only [List.length_drop] at hsk
        have hsk2 : Lx.skipL (s.data.toList.drop (pos + n)) ≤ s.size - (pos + n) := by
          have : s.data.toList.length = s.size := by simp
          rw [this] at hsk
          exact hsk
        have hdd : (s.data.toList.drop pos).drop n = s.data.toList.drop (pos + n) := by rw [List.drop_drop]
        rw [readF_got hne hp, hdd]
        obtain ⟨m, hm⟩ : ∃ m, m = Lx.skipL (s.data.toList.drop (pos + n)) := ⟨_, rfl⟩
        have hek := ev_skip_f s hs (pos + n) (by omega)
        rw [← hm] at hek hsk2 ⊢
        have hdd2 : (s.data.toList.drop pos).drop (n + m) = s.data.toList.drop (pos + (n + m)) := by rw [List.drop_drop]
        rw [hdd2]
        have hih := ih (pos + (n + m)) (acc ++ [toS (pos, p)]) (by omega) (by omega) (by simp; omega)
        have hal : acc.length < 3518437208883 := by omega
        have hwd := ev_Word p hok (pos : Int)
        have hbs := bsOf_size (Lx.spelled p)
        have hpn := wrap_add pos n (by omega)
        refine Ev.bind (f := fun k bt => _) ht ?_
        simp only [tokR, tokS, if_true, hal]
        refine Ev.bind (f := fun k t202 => _) hwd ?_
        rw [hbs, hsz]
        simp only [hpn]
        refine Ev.bind (f := fun k t203 => _) hek ?_
        rw [show pos + n + m = pos + (n + m) by clear hpn; omega]
        have e : acc ++ List.map toS ((pos, p) :: (Lx.readF g (pos + (n + m)) (s.data.toList.drop (pos + (n + m)))).1) = acc ++ [toS (pos, p)] ++ List.map toS (Lx.readF g (pos + (n + m)) (s.data.toList.drop (pos + (n + m)))).1 := by simp
        simp only [e]
        exact hih
    · have h1 : ¬ ((pos : Int) < (s.size : Int)) := by omega
      have hnil : s.data.toList.drop pos = [] := List.drop_of_length_le (by simp; omega)
      rw [hnil, Lx.readF, if_pos rfl]
      refine Ev.succ ?_
      simp only [swardref02_Read.l0, h1, if_false, erR, List.map_nil, List.append_nil]
      exact Ev.now _

theorem ev_Read (s : ByteArray) (hs : s.size ≤ 4200) (ps : List (Nat × Lx.Piece)) (er : Option (Nat × Int)) (h : Lx.readAll s.data.toList = (ps, er)) :
    Ev (fun k => swardref02_Read.f k s) (ps.map toS, (erR er).1, (erR er).2) := by
  have hk := ev_skip_f s hs 0 (Nat.zero_le _)
  rw [List.drop_zero, Nat.zero_add] at hk
  have hsk := skipF_le s.data.toList false
  have hsl : s.data.toList.length = s.size := by simp
  rw [hsl] at hsk
  unfold Lx.readAll at h
  obtain ⟨m, hm⟩ : ∃ m, m = Lx.skipL s.data.toList := ⟨_, rfl⟩
  have hms : m ≤ s.size := by rw [hm]; exact hsk
  rw [← hm, hsl] at h
  rw [← hm] at hk
  have hl := ev_Read_l s hs (s.size + 1) m [] hms (by omega) (by simp; omega)
  rw [h] at hl
  unfold swardref02_Read.f
  refine Ev.bind (f := fun k t192 => swardref02_Read.l0 k s [] t192) hk ?_
  exact hl
end Go.Proofs.YtkijoeihkajlcaaGreatDoor.PAll

set_option linter.unusedVariables false
set_option linter.unusedSimpArgs false
namespace Go.Proofs.YtkijoeihkajlcaaGreatDoor.PAll
open Go.RowKit Go.Shelf
open Go.Proofs.YtkijoeihkajlcaaGreatDoorW.PrintWords

/-- The words of pieces, each with a blank ahead. -/
def tailW : List Lx.Piece → Lx.Bs
  | [] => []
  | q :: qs => 32 :: (Lx.spelled q ++ tailW qs)
theorem joined_tail : ∀ (q : Lx.Piece) (qs : List Lx.Piece), Lx.joined ((q :: qs).map Lx.spelled) = Lx.spelled q ++ tailW qs
  | q, [] => by rw [List.map_cons, List.map_nil, Lx.join_one]; simp [tailW]
  | q, r :: qs => by
    have ih := joined_tail r qs
    rw [List.map_cons] at ih ⊢
    rw [List.map_cons, Lx.join_cons, ← List.map_cons, show Lx.joined ((r :: qs).map Lx.spelled) = _ from joined_tail r qs]
    rfl
theorem piece_at {xs : List S} {qs : List Lx.Piece} (hx : xs.map (fun x => (x.f0, x.f1, x.f2)) = qs.map (fun q => (tokK q, tokT q, tokN q))) (i : Nat) (h : i < xs.length) (h2 : i < qs.length) : xs[i].f0 = tokK qs[i] ∧ xs[i].f1 = tokT qs[i] ∧ xs[i].f2 = tokN qs[i] := by
  have := congrArg (fun l => l[i]?) hx
  simp only [List.getElem?_map, List.getElem?_eq_getElem h, List.getElem?_eq_getElem h2, Option.map_some, Option.some.injEq, Prod.mk.injEq] at this
  exact this
theorem app_bs (a : ByteArray) (l m : Lx.Bs) : a ++ bsOf l ++ bsOf m = a ++ bsOf (l ++ m) := by
  apply ByteArray.ext
  simp [bsOf]
theorem ev_Text_l (xs : List S) (qs : List Lx.Piece) (hq : ∀ q ∈ qs, Lx.Good q) (hx : xs.map (fun x => (x.f0, x.f1, x.f2)) = qs.map (fun q => (tokK q, tokT q, tokN q))) (hb : xs.length ≤ 5000) :
    ∀ (n i : Nat) (acc : ByteArray), 0 < i → i ≤ xs.length → xs.length - i = n → acc.size ≤ 100 * i → Ev (fun k => swardref02_Text.l0 k xs acc i) (acc ++ bsOf (tailW (qs.drop i))) := by
  have hl : xs.length = qs.length := by simpa using congrArg List.length hx
  intro n
  induction n with
  | zero =>
    intro i acc hi0 hi hn ha
    have h1 : ¬ ((i : Int) < (xs.length : Int)) := by omega
    have he : qs.drop i = [] := List.drop_of_length_le (by omega)
    have hfin : acc ++ bsOf (tailW []) = acc := by apply ByteArray.ext; simp [bsOf, tailW]
    rw [he, hfin]
    refine Ev.succ ?_
    simp only [swardref02_Text.l0, h1, if_false]
    exact Ev.now _
  | succ n ih =>
    intro i acc hi0 hi hn ha
    have hlt : i < xs.length := by omega
    have hlt2 : i < qs.length := by omega
    obtain ⟨e0, e1, e2⟩ := piece_at hx i hlt hlt2
    have hgood := hq qs[i] (List.getElem_mem hlt2)
    have hlen := Lx.good_len qs[i] hgood
    have hwd := ev_Word qs[i] (Lx.good_ok _ hgood) xs[i].f3
    obtain ⟨wd, hwdq⟩ : ∃ wd, wd = bsOf (Lx.spelled qs[i]) := ⟨_, rfl⟩
    have hwz : wd.size ≤ 22 := by rw [hwdq, bsOf_size]; omega
    have hs1 : (acc ++ (⟨#[32]⟩ : ByteArray)).size = acc.size + 1 := by rw [ByteArray.size_append]; rfl
    have hs2 : (acc ++ (⟨#[32]⟩ : ByteArray) ++ wd).size = acc.size + 1 + wd.size := by rw [ByteArray.size_append, hs1]
    have ih0 := ih (i + 1) (acc ++ (⟨#[32]⟩ : ByteArray) ++ wd) (by omega) (by omega) (by omega) (by rw [hs2]; omega)
    have h1 : (i : Int) < (xs.length : Int) := by omega
    have h2 : (0 : Int) ≤ (i : Int) := Int.natCast_nonneg _
    have h3 : (i : Int) > 0 := by omega
    have h4 : acc.size + 1 ≤ 9223372036854775807 := by omega
    have h5 : (acc ++ (⟨#[32]⟩ : ByteArray)).size + wd.size ≤ 9223372036854775807 := by rw [hs1]; omega
    have hfin : acc ++ bsOf (tailW (qs.drop i)) = acc ++ (⟨#[32]⟩ : ByteArray) ++ wd ++ bsOf (tailW (qs.drop (i + 1))) := by
      rw [List.drop_eq_getElem_cons hlt2, hwdq]
      apply ByteArray.ext
      simp [bsOf, tailW]
    have hw := wrap_succ i (by omega)
    rw [hfin]
    rw [← hwdq] at hwd
    refine Ev.succ ?_
    simp only [swardref02_Text.l0, h1, h2, h3, h4, if_true, rd_S xs i hlt, e0, e1, e2, hw]
    refine Ev.bind (f := fun k t => _) hwd ?_
    simp only [h5, if_true]
    exact ih0
theorem ev_Text (xs : List S) (qs : List Lx.Piece) (hq : ∀ q ∈ qs, Lx.Good q) (hx : xs.map (fun x => (x.f0, x.f1, x.f2)) = qs.map (fun q => (tokK q, tokT q, tokN q))) (hb : xs.length ≤ 5000) :
    Ev (fun k => swardref02_Text.f k xs) (bsOf (Lx.joined (qs.map Lx.spelled))) := by
  have hl : xs.length = qs.length := by simpa using congrArg List.length hx
  unfold swardref02_Text.f
  by_cases h0 : xs.length = 0
  · have h1 : ¬ ((0 : Int) < (xs.length : Int)) := by omega
    obtain rfl : qs = [] := List.length_eq_zero_iff.1 (by omega)
    refine Ev.succ ?_
    simp only [swardref02_Text.l0, h1, if_false]
    exact Ev.now _
  · have hlt : 0 < xs.length := by omega
    have hlt2 : 0 < qs.length := by omega
    obtain ⟨e0, e1, e2⟩ := piece_at hx 0 hlt hlt2
    have hgood := hq qs[0] (List.getElem_mem hlt2)
    have hlen := Lx.good_len qs[0] hgood
    have hwd := ev_Word qs[0] (Lx.good_ok _ hgood) xs[0].f3
    obtain ⟨wd, hwdq⟩ : ∃ wd, wd = bsOf (Lx.spelled qs[0]) := ⟨_, rfl⟩
    have hwz : wd.size ≤ 22 := by rw [hwdq, bsOf_size]; omega
    have hz : (⟨#[]⟩ : ByteArray) ++ wd = wd := by apply ByteArray.ext; simp
    have ih0 := ev_Text_l xs qs hq hx hb _ 1 wd (by omega) (by omega) rfl (by omega)
    have hfin : bsOf (Lx.joined (qs.map Lx.spelled)) = wd ++ bsOf (tailW (qs.drop 1)) := by
      have hqs : qs = qs[0] :: qs.drop 1 := by
        have := List.drop_eq_getElem_cons hlt2
        rwa [List.drop_zero] at this
      rw [hwdq]
      conv => lhs; rw [hqs, joined_tail]
      apply ByteArray.ext
      simp [bsOf]
    have h1 : (0 : Int) < (xs.length : Int) := by omega
    have h3 : ¬ ((0 : Int) > 0) := by omega
    have h2 : (0 : Int) ≤ 0 := by omega
    have h5 : (⟨#[]⟩ : ByteArray).size + wd.size ≤ 9223372036854775807 := by
      have : (⟨#[]⟩ : ByteArray).size = 0 := rfl
      omega
    have hw : wrap64 ((0 : Int) + 1) = ((1 : Nat) : Int) := by unfold wrap64; omega
    have hr0 : rd_T41 xs 0 = xs[0] := rd_S xs 0 hlt
    rw [hfin]
    rw [← hwdq] at hwd
    refine Ev.succ ?_
    simp only [swardref02_Text.l0, h1, h2, h3, if_true, if_false, hr0, e0, e1, e2, hw]
    refine Ev.bind (f := fun k t => _) hwd ?_
    simp only [h5, if_true, hz]
    exact ih0
end Go.Proofs.YtkijoeihkajlcaaGreatDoor.PAll

set_option linter.unusedVariables false
set_option linter.unusedSimpArgs false
namespace Go.Proofs.YtkijoeihkajlcaaGreatDoor.PAll
open Go.RowKit Go.Shelf
open Go.Proofs.YtkijoeihkajlcaaGreatDoorW.PrintWords

theorem sameTL_S : ∀ (xs ys : List S), sameTL (xs.map sT) (ys.map sT) = sameL xs ys
  | [], _ => rfl
  | x :: xs, [] => rfl
  | x :: xs, y :: ys => by
    simp only [List.map_cons, sameTL, sameL, sameTL_S xs ys]
    rfl
theorem sameT_S (xs ys : List S) : sameT (xs.map sT) (ys.map sT) = sameB xs ys := by
  unfold sameT sameB
  rw [sameTL_S, List.length_map, List.length_map]
theorem words_none_of : ∀ (ts : List Tk), (∃ t ∈ ts, Lx.pieceOf t = none) → Lx.words ts = none
  | [], h => by obtain ⟨t, ht, _⟩ := h; simp at ht
  | t :: ts, h => by
    obtain ⟨u, hu, hn⟩ := h
    unfold Lx.words
    by_cases h0 : Lx.pieceOf t = none
    · have hw : (Lx.word t).2 = 2 := by unfold Lx.word; rw [h0]
      rw [hw, if_neg (by omega)]
    · rcases List.mem_cons.1 hu with rfl | hu
      · exact absurd hn h0
      · rw [words_none_of ts ⟨u, hu, hn⟩]
        split <;> rfl
/-- No word is long. -/
theorem word_short (t : Tk) : (Lx.word t).1.length ≤ 22 := by
  unfold Lx.word
  split
  · simp
  · rename_i p hp
    exact (Lx.good_len p (Lx.piece_tok t p hp).1).2
theorem long_short : ∀ ts : List Tk, Lx.long ts ≤ 23 * ts.length
  | [] => by simp [Lx.long]
  | t :: ts => by
    have ih := long_short ts
    have := word_short t
    unfold Lx.long at ih ⊢
    simp only [List.map_cons, List.sum_cons, List.length_cons]
    omega
theorem ev_Word_S (x : S) (p : Lx.Piece) (h : Lx.pieceOf (sT x) = some p) : Ev (fun k => swardref02_Word.f k x.f0 x.f1 x.f2 x.f3) (bsOf (Lx.spelled p)) := by
  obtain ⟨hg, h0, h1, h2, _⟩ := Lx.piece_tok (sT x) p h
  have h := ev_Word p (Lx.good_ok p hg) x.f3
  rw [show x.f0 = tokK p from h0, show x.f1 = tokT p from h1, show x.f2 = tokN p from h2]
  exact h

set_option maxRecDepth 100000 in
set_option maxHeartbeats 8000000 in
theorem LexWords_law (A : Option Addr) (c : Nat) (xs : List S) (A2 : Option Addr) (c2 : Nat) (ys : List S) (w : World) (hL : Laid w) (hr : Kd.C k41 w A xs.length xs) (hc : xs.length ≤ c) (hr2 : Kd.C k41 w A2 ys.length ys) (hc2 : ys.length ≤ c2) :
    Calls Tryz.prog 5 #[.slice A xs.length c, .slice A2 ys.length c2] w fun e w' => e = .returned (.bool true) ∧ Below w.heap.size w w' := by
  have hkn := Lib.hid (fun w' (h : Laid w') => known_calls w' h)
  obtain ⟨kf, hfew⟩ := (ev_few xs).rounds
  have hfc := Lib.hid (swardlaw02_few.calls kf A c xs _ w hr hc hfew)
  obtain ⟨kf2, hfew2⟩ := (ev_few ys).rounds
  have hfc2 := Lib.hid (fun W (hW : Kd.C k41 W A2 ys.length ys) => swardlaw02_few.calls kf2 A2 c2 ys _ W hW hc2 hfew2)
  clear hfew hfew2
  by_cases c1 : fewB xs = true
  · rw [c1] at hfc
    by_cases d1 : fewB ys = true
    · rw [d1] at hfc2
      obtain ⟨hn60, hs40⟩ := fewB_iff xs c1
      obtain ⟨hm60, _⟩ := fewB_iff ys d1
      obtain ⟨ka, hall⟩ := (ev_All xs (by omega)).rounds
      have hac := Lib.hid (fun W (hW : Kd.C k41 W A xs.length xs) => swardref02_All.calls ka A c xs _ W hW hc hall)
      obtain ⟨ks, hsam⟩ := (ev_Same xs ys (by omega)).rounds
      have hsc := Lib.hid (fun W (hW : Kd.C k41 W A xs.length xs) (hW2 : Kd.C k41 W A2 ys.length ys) => swardref02_Same.calls ks A c xs A2 c2 ys _ W hW hc hW2 hc2 hsam)
      have hlc := Lib.hid (fun W (hW : Kd.C k41 W A xs.length xs) (hW2 : Kd.C k41 W A2 ys.length ys) => (by
        have := Same_calls A c (xs.map sT) A2 c2 (ys.map sT) W (by rw [List.length_map]; exact reads_sT hW) (by rw [List.length_map]; exact reads_sT hW2) (by rw [List.length_map]; omega) (by rw [List.length_map]; omega)
        rw [sameT_S, List.length_map, List.length_map] at this
        exact this : Calls Tryz.prog 19 #[.slice A xs.length c, .slice A2 ys.length c2] W fun e w' => e = .returned (.bool (sameB xs ys)) ∧ Below W.heap.size W w'))
      have htx := Lib.hid (fun W hW (hC : Kd.C k41 W A xs.length xs) => (by
        have hlong := long_short (xs.map sT)
        rw [List.length_map] at hlong
        have := Text_calls A c (xs.map sT) W hW (by rw [List.length_map]; exact reads_sT hC) (by rw [List.length_map]; exact hc) (by rw [List.length_map]; omega) (by
          intro t ht
          obtain ⟨x, hx, rfl⟩ := List.mem_map.1 ht
          have := hs40 x hx
          show x.f1.size ≤ 4000
          omega) (by omega)
        rw [List.length_map] at this
        exact this : Calls Tryz.prog 18 #[.slice A xs.length c] W fun e w' => e = .returned (.tuple #[strV (Lx.text (xs.map sT)).1, .int .i64 (Lx.text (xs.map sT)).2]) ∧ Below W.heap.size W w'))
      have hrh := Lib.hid hr
      have hrh2 := Lib.hid hr2
      have hs40h := Lib.hid hs40
      obtain ⟨q, hq⟩ : ∃ q, q = sameB xs ys := ⟨_, rfl⟩
      rw [← hq] at hsc hlc
      clear hall hsam hr hr2 c1 d1 hq hs40
      go_enter Tryz.func5, Tryz.ntmps5
      go_wp2_with fail
      refine hfc.out.mono ?_
      rintro e w1 ⟨rfl, hd⟩
      have hB1 := Lib.hid hd.below
      replace hrh := Lib.hid (Kd.C_below hrh.out hd.below)
      replace hrh2 := Lib.hid (Kd.C_below hrh2.out hd.below)
      clear hd
      go_wp2_with fail
      refine (hfc2.out _ hrh2.out).mono ?_
      rintro e w2 ⟨rfl, hd⟩
      have hB2 := Lib.hid (Go.Proofs.YtkijoeihkajlcaaGreatDoor.below_then hB1.out hd.below (Nat.le_refl _))
      replace hrh := Lib.hid (Kd.C_below hrh.out hd.below)
      replace hrh2 := Lib.hid (Kd.C_below hrh2.out hd.below)
      clear hd hfc hfc2
      go_wp2
      go_loopg [5] xs.length (fun g v5 wr => ∃ (i : Nat), v5 = .int .i64 i ∧ i ≤ xs.length ∧ Hid (g + i = xs.length) ∧ Hid (Below w.heap.size w wr) ∧ Hid (Below w2.heap.size w2 wr))
      case atStart => exact ⟨0, rfl, Nat.zero_le _, Lib.hid rfl, hB2, Lib.hid (Below.refl _ _)⟩
      case round =>
        obtain ⟨i, rfl, hi, hg, hB, hBr⟩ := hrel
        by_cases hlt : i < xs.length
        · obtain ⟨x, hx⟩ : ∃ x, x = xs[i] := ⟨_, rfl⟩
          have hrd : rd_T41 xs (i : Int) = x := by rw [rd_S xs i hlt, hx]
          have hsz : x.f1.size ≤ 40 := hs40h.out x (by rw [hx]; exact List.getElem_mem hlt)
          obtain ⟨ad, rfl, d0, d1, d2, d3⟩ := at_T41 (Kd.C_below hrh.out hBr.out) i (by omega) (by omega)
          simp only [Int.toNat_natCast] at d0 d1 d2 d3
          rw [hrd] at d0 d1 d2 d3
          have hwc := Lib.hid (fun W hW => Word_calls (sT x) (by show x.f1.size ≤ 4000; omega) W hW)
          obtain ⟨kt, htk⟩ := (ev_Token x).rounds
          have htc := Lib.hid (fun W => swardref02_Token.calls kt x.f0 x.f1 x.f2 x.f3 _ W htk)
          have hcell := Lib.hid (fun (W : World) (hW : Below w2.heap.size w2 W) => (by
            obtain ⟨ad', e, d0, d1, d2, d3⟩ := at_T41 (Kd.C_below hrh.out hW) i (by omega) (by omega)
            cases e
            simp only [Int.toNat_natCast] at d0 d1 d2 d3
            rw [hrd] at d0 d1 d2 d3
            exact ⟨d0, d1, d2, d3⟩ : W.cell? (ad.add (i * 4)) = some (.int .i64 x.f0) ∧ W.cell? ⟨(ad.add (i * 4)).block, (ad.add (i * 4)).off + 1, none⟩ = some (.string x.f1) ∧ W.cell? ⟨(ad.add (i * 4)).block, (ad.add (i * 4)).off + 2, none⟩ = some (.int .i64 x.f2) ∧ W.cell? ⟨(ad.add (i * 4)).block, (ad.add (i * 4)).off + 3, none⟩ = some (.int .i64 x.f3)))
          clear htk hx
          cases hpc : Lx.pieceOf (sT x) with
          | none =>
            have hw0 : Lx.word (sT x) = ([], 2) := by unfold Lx.word; rw [hpc]
            have ht0 : tokenB x = false := by unfold tokenB; rw [hpc]; rfl
            rw [hw0] at hwc
            rw [ht0] at htc
            simp only [strV] at hwc
            clear hpc hw0 ht0
            go_wp2_with fail
            refine (hwc.out _ (hL.below hB.out)).mono ?_
            rintro e w3 ⟨rfl, hb⟩
            have hB3 := Lib.hid (Go.Proofs.YtkijoeihkajlcaaGreatDoor.below_then hB.out hb (Nat.le_refl _))
            have hBr3 := Lib.hid (Go.Proofs.YtkijoeihkajlcaaGreatDoor.below_then hBr.out hb (Nat.le_refl _))
            clear hb d0 d1 d2 d3
            obtain ⟨d0, d1, d2, d3⟩ := hcell.out _ hBr3.out
            go_wp2_with fail
            refine (htc.out _).mono ?_
            rintro e w4 ⟨rfl, hb⟩
            have hB4 := Lib.hid (Go.Proofs.YtkijoeihkajlcaaGreatDoor.below_then hB3.out hb (Nat.le_refl _))
            have hBr4 := Lib.hid (Go.Proofs.YtkijoeihkajlcaaGreatDoor.below_then hBr3.out hb (Nat.le_refl _))
            clear hb d0 d1 d2 d3
            obtain ⟨d0, d1, d2, d3⟩ := hcell.out _ hBr4.out
            go_wp2_with fail
            refine (htc.out _).mono ?_
            rintro e w5 ⟨rfl, hb⟩
            have hB5 := Lib.hid (Go.Proofs.YtkijoeihkajlcaaGreatDoor.below_then hB4.out hb (Nat.le_refl _))
            have hBr5 := Lib.hid (Go.Proofs.YtkijoeihkajlcaaGreatDoor.below_then hBr4.out hb (Nat.le_refl _))
            clear hb d0 d1 d2 d3
            go_wp2
            go_roundg (xs.length - (i + 1))
            case measure => have := hg.out; omega
            case rel => exact ⟨i + 1, by go_num, by omega, Lib.hid (by omega), hB5, hBr5⟩
          | some p =>
            have hw0 : Lx.word (sT x) = (Lx.spelled p, 0) := by unfold Lx.word; rw [hpc]
            have ht0 : tokenB x = true := by unfold tokenB; rw [hpc]; rfl
            rw [hw0] at hwc
            rw [ht0] at htc
            obtain ⟨kw, hwd⟩ := (ev_Word_S x p hpc).rounds
            obtain ⟨b, hb⟩ : ∃ b, b = bsOf (Lx.spelled p) := ⟨_, rfl⟩
            have hbv : strV (Lx.spelled p) = .string b := by rw [hb]; rfl
            rw [← hb] at hwd
            rw [hbv] at hwc
            have hwdc := Lib.hid (fun W => swardref02_Word.calls kw x.f0 x.f1 x.f2 x.f3 b W hwd)
            clear hpc hw0 ht0 hb hbv hwd
            go_wp2_with fail
            refine (hwc.out _ (hL.below hB.out)).mono ?_
            rintro e w3 ⟨rfl, hb⟩
            have hB3 := Lib.hid (Go.Proofs.YtkijoeihkajlcaaGreatDoor.below_then hB.out hb (Nat.le_refl _))
            have hBr3 := Lib.hid (Go.Proofs.YtkijoeihkajlcaaGreatDoor.below_then hBr.out hb (Nat.le_refl _))
            clear hb d0 d1 d2 d3
            obtain ⟨d0, d1, d2, d3⟩ := hcell.out _ hBr3.out
            go_wp2_with fail
            refine (htc.out _).mono ?_
            rintro e w4 ⟨rfl, hb⟩
            have hB4 := Lib.hid (Go.Proofs.YtkijoeihkajlcaaGreatDoor.below_then hB3.out hb (Nat.le_refl _))
            have hBr4 := Lib.hid (Go.Proofs.YtkijoeihkajlcaaGreatDoor.below_then hBr3.out hb (Nat.le_refl _))
            clear hb d0 d1 d2 d3
            obtain ⟨d0, d1, d2, d3⟩ := hcell.out _ hBr4.out
            go_wp2_with fail
            refine (htc.out _).mono ?_
            rintro e w5 ⟨rfl, hb⟩
            have hB5 := Lib.hid (Go.Proofs.YtkijoeihkajlcaaGreatDoor.below_then hB4.out hb (Nat.le_refl _))
            have hBr5 := Lib.hid (Go.Proofs.YtkijoeihkajlcaaGreatDoor.below_then hBr4.out hb (Nat.le_refl _))
            clear hb d0 d1 d2 d3
            obtain ⟨d0, d1, d2, d3⟩ := hcell.out _ hBr5.out
            go_wp2_with fail
            refine (hwdc.out _).mono ?_
            rintro e w6 ⟨rfl, hb⟩
            have hB6 := Lib.hid (Go.Proofs.YtkijoeihkajlcaaGreatDoor.below_then hB5.out hb (Nat.le_refl _))
            have hBr6 := Lib.hid (Go.Proofs.YtkijoeihkajlcaaGreatDoor.below_then hBr5.out hb (Nat.le_refl _))
            clear hb d0 d1 d2 d3
            go_wp2
            go_roundg (xs.length - (i + 1))
            case measure => have := hg.out; omega
            case rel => exact ⟨i + 1, by go_num, by omega, Lib.hid (by omega), hB6, hBr6⟩
        · have hr3 := Lib.hid (Kd.C_below hrh.out hBr.out)
          have hs3 := Lib.hid (Kd.C_below hrh2.out hBr.out)
          clear hrh hrh2
          by_cases hal : xs.all tokenB = true
          · obtain ⟨qs, hq1, hq2, hq3, hq4, hq5, hq6⟩ := Lx.words_some (xs.map sT) (by
              intro t ht
              obtain ⟨x, hx, rfl⟩ := List.mem_map.1 ht
              exact List.all_eq_true.1 hal x hx)
            have htext : Lx.text (xs.map sT) = (Lx.joined (qs.map Lx.spelled), 0) := by unfold Lx.text; rw [hq3]
            rw [List.map_map] at hq5
            obtain ⟨kx, htx2⟩ := (ev_Text xs qs hq2 hq5 (by omega)).rounds
            obtain ⟨b, hb⟩ : ∃ b, b = bsOf (Lx.joined (qs.map Lx.spelled)) := ⟨_, rfl⟩
            have hbv : strV (Lx.joined (qs.map Lx.spelled)) = .string b := by rw [hb]; rfl
            rw [← hb] at htx2
            have htc2 := Lib.hid (fun W (hW : Kd.C k41 W A xs.length xs) => swardref02_Text.calls kx A c xs b W hW hc htx2)
            rw [htext, hbv] at htx
            rw [hal] at hac
            clear hal hq1 hq2 hq3 hq4 hq5 hq6 htext hb hbv htx2
            go_wp2_with fail
            refine (htx.out _ (hL.below hB.out) hr3.out).mono ?_
            rintro e w3 ⟨rfl, hb⟩
            have hB3 := Lib.hid (Go.Proofs.YtkijoeihkajlcaaGreatDoor.below_then hB.out hb (Nat.le_refl _))
            replace hr3 := Lib.hid (Kd.C_below hr3.out hb)
            replace hs3 := Lib.hid (Kd.C_below hs3.out hb)
            clear hb
            go_wp2_with fail
            refine (hlc.out _ hr3.out hs3.out).mono ?_
            rintro e w4 ⟨rfl, hb⟩
            have hB4 := Lib.hid (Go.Proofs.YtkijoeihkajlcaaGreatDoor.below_then hB3.out hb (Nat.le_refl _))
            replace hr3 := Lib.hid (Kd.C_below hr3.out hb)
            replace hs3 := Lib.hid (Kd.C_below hs3.out hb)
            clear hb
            go_wp2_with fail
            refine (hsc.out _ hr3.out hs3.out).mono ?_
            rintro e w5 ⟨rfl, hb⟩
            have hB5 := Lib.hid (Go.Proofs.YtkijoeihkajlcaaGreatDoor.below_then hB4.out hb (Nat.le_refl _))
            replace hr3 := Lib.hid (Kd.C_below hr3.out hb)
            clear hb
            go_wp2_with fail
            refine (hac.out _ hr3.out).mono ?_
            rintro e w6 ⟨rfl, hb⟩
            have hB6 := Lib.hid (Go.Proofs.YtkijoeihkajlcaaGreatDoor.below_then hB5.out hb (Nat.le_refl _))
            replace hr3 := Lib.hid (Kd.C_below hr3.out hb)
            clear hb
            go_wp2_with fail
            refine (htc2.out _ hr3.out).mono ?_
            rintro e w7 ⟨rfl, hb⟩
            have hB7 := Lib.hid (Go.Proofs.YtkijoeihkajlcaaGreatDoor.below_then hB6.out hb (Nat.le_refl _))
            clear hb
            go_wp2_with fail
            refine (hkn.out _ (hL.below hB7.out)).mono ?_
            rintro e w8 ⟨rfl, hb⟩
            have hB8 := Lib.hid (Go.Proofs.YtkijoeihkajlcaaGreatDoor.below_then hB7.out hb (Nat.le_refl _))
            clear hb
            go_wp2
            go_ret
            exact ⟨rfl, hB8.out⟩
          · have hal' : xs.all tokenB = false := by simpa using hal
            have htext : Lx.text (xs.map sT) = ([], 2) := by
              unfold Lx.text
              rw [words_none_of]
              obtain ⟨x, hx, hxf⟩ := List.all_eq_false.1 hal'
              refine ⟨sT x, List.mem_map_of_mem hx, ?_⟩
              unfold tokenB at hxf
              cases hp : Lx.pieceOf (sT x) with
              | none => rfl
              | some p => rw [hp] at hxf; simp at hxf
            rw [htext] at htx
            rw [hal'] at hac
            simp only [strV] at htx
            clear hal hal' htext
            go_wp2_with fail
            refine (htx.out _ (hL.below hB.out) hr3.out).mono ?_
            rintro e w3 ⟨rfl, hb⟩
            have hB3 := Lib.hid (Go.Proofs.YtkijoeihkajlcaaGreatDoor.below_then hB.out hb (Nat.le_refl _))
            replace hr3 := Lib.hid (Kd.C_below hr3.out hb)
            replace hs3 := Lib.hid (Kd.C_below hs3.out hb)
            clear hb
            go_wp2_with fail
            refine (hlc.out _ hr3.out hs3.out).mono ?_
            rintro e w4 ⟨rfl, hb⟩
            have hB4 := Lib.hid (Go.Proofs.YtkijoeihkajlcaaGreatDoor.below_then hB3.out hb (Nat.le_refl _))
            replace hr3 := Lib.hid (Kd.C_below hr3.out hb)
            replace hs3 := Lib.hid (Kd.C_below hs3.out hb)
            clear hb
            go_wp2_with fail
            refine (hsc.out _ hr3.out hs3.out).mono ?_
            rintro e w5 ⟨rfl, hb⟩
            have hB5 := Lib.hid (Go.Proofs.YtkijoeihkajlcaaGreatDoor.below_then hB4.out hb (Nat.le_refl _))
            replace hr3 := Lib.hid (Kd.C_below hr3.out hb)
            clear hb
            go_wp2_with fail
            refine (hac.out _ hr3.out).mono ?_
            rintro e w6 ⟨rfl, hb⟩
            have hB6 := Lib.hid (Go.Proofs.YtkijoeihkajlcaaGreatDoor.below_then hB5.out hb (Nat.le_refl _))
            clear hb
            go_wp2_with fail
            refine (hkn.out _ (hL.below hB6.out)).mono ?_
            rintro e w7 ⟨rfl, hb⟩
            have hB7 := Lib.hid (Go.Proofs.YtkijoeihkajlcaaGreatDoor.below_then hB6.out hb (Nat.le_refl _))
            clear hb
            go_wp2
            go_ret
            exact ⟨rfl, hB7.out⟩
    · have d1' : fewB ys = false := by simpa using d1
      rw [d1'] at hfc2
      have hrh2 := Lib.hid hr2
      clear hr hr2 c1 d1 d1'
      go_enter Tryz.func5, Tryz.ntmps5
      go_wp2_with fail
      refine hfc.out.mono ?_
      rintro e w1 ⟨rfl, hd⟩
      have hB1 := Lib.hid hd.below
      replace hrh2 := Lib.hid (Kd.C_below hrh2.out hd.below)
      clear hd
      go_wp2_with fail
      refine (hfc2.out _ hrh2.out).mono ?_
      rintro e w2 ⟨rfl, hd⟩
      have hB2 := Lib.hid (Go.Proofs.YtkijoeihkajlcaaGreatDoor.below_then hB1.out hd.below (Nat.le_refl _))
      clear hd
      go_wp2_with fail
      refine (hkn.out _ (hL.below hB2.out)).mono ?_
      rintro e w3 ⟨rfl, hb⟩
      have hB3 := Lib.hid (Go.Proofs.YtkijoeihkajlcaaGreatDoor.below_then hB2.out hb (Nat.le_refl _))
      clear hb
      go_wp2
      go_ret
      exact ⟨rfl, hB3.out⟩
  · have c1' : fewB xs = false := by simpa using c1
    rw [c1'] at hfc
    clear hr hr2 c1 c1'
    go_enter Tryz.func5, Tryz.ntmps5
    go_wp2_with fail
    refine hfc.out.mono ?_
    rintro e w1 ⟨rfl, hd⟩
    have hB1 := Lib.hid hd.below
    clear hd
    go_wp2_with fail
    refine (hkn.out _ (hL.below hB1.out)).mono ?_
    rintro e w2 ⟨rfl, hb⟩
    have hB2 := Lib.hid (Go.Proofs.YtkijoeihkajlcaaGreatDoor.below_then hB1.out hb (Nat.le_refl _))
    clear hb
    go_wp2
    go_ret
    exact ⟨rfl, hB2.out⟩
end Go.Proofs.YtkijoeihkajlcaaGreatDoor.PAll

set_option linter.unusedVariables false
set_option linter.unusedSimpArgs false
namespace Go.Proofs.YtkijoeihkajlcaaGreatDoor
open Go.ChangeShapes Go.WideShapes Go.ChangeAt Go.RowKit Go.ChangeMaps

theorem ownK : ownKnob Tryz.prog.godebug = none := by kernel_rfl
def laidL : List (String × DataW Unit) := [("math/bits.deBruijn32tab", Rows.laid_math_bits_deBruijn32tab), ("math/bits.deBruijn64tab", Rows.laid_math_bits_deBruijn64tab), ("internal/strconv.uint64pow10", Rows.laid_internal_strconv_uint64pow10), ("unicode.White_Space", Rows.laid_unicode_White_Space), ("strings.asciiSpace", Rows.laid_strings_asciiSpace)]
theorem laid_of_met {W : World} (h : laidMetH Tryz.prog laidL W) : Laid W := by
  rw [MakeChecks.laidMetH_plain _ _ _ (by kernel_rfl)] at h
  have h3 := (show laidMet Tryz.prog [("internal/strconv.uint64pow10", Rows.laid_internal_strconv_uint64pow10), ("unicode.White_Space", Rows.laid_unicode_White_Space), ("strings.asciiSpace", Rows.laid_strings_asciiSpace)] W from h.tail.tail)
  have h5 := (show laidMet Tryz.prog [("strings.asciiSpace", Rows.laid_strings_asciiSpace)] W from h3.tail.tail)
  rw [show (Rows.laid_strings_asciiSpace : DataW Unit) = Lib.tabData .u8 Lib.asciiSpaceTab by kernel_rfl] at h5
  rw [show (Rows.laid_internal_strconv_uint64pow10 : DataW Unit) = Lib.tabData .u64 Lib.pow10Tab by kernel_rfl] at h3
  refine ⟨?_, ?_⟩
  · exact Lib.tabIs_of_head (g := (Tryz.prog.globalNamed "strings.asciiSpace").getD 0) (t := ((Tryz.prog.globals[(Tryz.prog.globalNamed "strings.asciiSpace").getD 0]?).map (·.type)).getD 0) (e := 5) (n := 256) (by kernel_rfl) (by kernel_rfl) (by kernel_rfl) (by kernel_rfl) (by kernel_rfl) (by kernel_rfl) h5
  · exact Lib.tabIs_of_head (g := (Tryz.prog.globalNamed "internal/strconv.uint64pow10").getD 0) (t := ((Tryz.prog.globals[(Tryz.prog.globalNamed "internal/strconv.uint64pow10").getD 0]?).map (·.type)).getD 0) (e := 123) (n := Lib.pow10Tab.length) (by kernel_rfl) (by kernel_rfl) (by kernel_rfl) (by kernel_rfl) (by kernel_rfl) (by kernel_rfl) h3

/-- Behind a call that keeps all that lay, where no argument holds an address. -/
theorem post_none {H : Type} {enc : TypeId × Value → H} {P : Program} {f : Func} {s : ChangeSpec} {apart fresh handsOn again : Bool} {W W' : World} {args : Array Value} {v : Value} {ds gs : List (DataW H)}
    (hW : DataW.Whole enc P f.params.toList s.vars apart W args.toList ds gs [])
    (hres : ∀ (b : Nat) (sp : Nat → Bool) (hd : Bool), DataW.TrodAll enc P W' b sp hd f.resultTypes.toList (v.resultList f.resultTypes.size) (s.fn H (ds ++ gs)).results [])
    (hargs : ∀ sp : Nat → Bool, DataW.TrodAll enc P W' 0 sp true f.params.toList args.toList (s.fn H (ds ++ gs)).args [])
    (hvars : ∀ sp : Nat → Bool, DataW.TrodVars enc P W' sp s.vars (s.fn H (ds ++ gs)).vars [])
    (hk : W.keptBut W' (fun p => p ∈ ([] : List MemPlace)))
    (hok : ∀ (j : Nat) (t : TypeId) (r : Value), f.resultTypes[j]? = some t → (v.resultList f.resultTypes.size)[j]? = some r → Value.okWide P W' .any 0 t r) :
    s.post enc P f apart fresh handsOn again W args v W' := by
  refine ⟨ds, gs, [], [], [], [], hW, hres _ _ _, hargs _, hvars _, World.keptBut_mono (fun p hp => by cases hp) hk, fun _ => ?_⟩
  refine ⟨hok, _, _, ([] ++ []) ++ [], ⟨[] ++ [], [], trodAll_append (hargs _) (hres _ _ _), hvars _, rfl, ?_, fun _ => List.nodup_nil⟩, fun p hp _ => by cases hp⟩
  intro b off hp
  cases hp
end Go.Proofs.YtkijoeihkajlcaaGreatDoor

set_option linter.unusedVariables false
set_option linter.unusedSimpArgs false
namespace Go.Proofs.YtkijoeihkajlcaaGreatDoor
open Go.ChangeShapes Go.WideShapes Go.ChangeAt Go.RowKit Go.ChangeMaps
open Go.Proofs.YtkijoeihkajlcaaGreatDoorW.PrintWords

def isInt (P : Program) (t : TypeId) : Bool := match P.underlying t with | some (.int .i64) => true | _ => false
def isStr (P : Program) (t : TypeId) : Bool := match P.underlying t with | some .string => true | _ => false
/-- A struct of a number, a string and two numbers, each of one cell. -/
def tokOk (P : Program) (t : TypeId) : Bool := match P.underlying t with
  | some (.struct fs) => (match fs.toList with
    | [f0, f1, f2, f3] => (isInt P f0.type && ((f0.offset == 0) && (P.cellsOf f0.type == 1))) && ((isStr P f1.type && ((f1.offset == 1) && (P.cellsOf f1.type == 1))) && ((isInt P f2.type && ((f2.offset == 2) && (P.cellsOf f2.type == 1))) && (isInt P f3.type && ((f3.offset == 3) && (P.cellsOf f3.type == 1)))))
    | _ => false)
  | _ => false
theorem isInt_iff {P : Program} {t : TypeId} (h : isInt P t = true) : P.underlying t = some (.int .i64) := by
  unfold isInt at h
  split at h
  · assumption
  · cases h
theorem isStr_iff {P : Program} {t : TypeId} (h : isStr P t = true) : P.underlying t = some .string := by
  unfold isStr at h
  split at h
  · assumption
  · cases h
theorem tokOk_open {P : Program} {t : TypeId} (h : tokOk P t = true) : ∃ f0 f1 f2 f3 : Field, P.underlying t = some (.struct #[f0, f1, f2, f3]) ∧ (P.underlying f0.type = some (.int .i64) ∧ f0.offset = 0 ∧ P.cellsOf f0.type = 1) ∧ (P.underlying f1.type = some .string ∧ f1.offset = 1 ∧ P.cellsOf f1.type = 1) ∧ (P.underlying f2.type = some (.int .i64) ∧ f2.offset = 2 ∧ P.cellsOf f2.type = 1) ∧ (P.underlying f3.type = some (.int .i64) ∧ f3.offset = 3 ∧ P.cellsOf f3.type = 1) := by
  unfold tokOk at h
  split at h
  · rename_i fs hu
    split at h
    · rename_i f0 f1 f2 f3 hf
      simp only [Bool.and_eq_true, beq_iff_eq] at h
      obtain ⟨⟨a0, a1, a2⟩, ⟨b0, b1, b2⟩, ⟨c0, c1, c2⟩, e0, e1, e2⟩ := h
      have : fs = #[f0, f1, f2, f3] := by
        apply Array.toList_inj.1
        exact hf
      exact ⟨f0, f1, f2, f3, by rw [hu, this], ⟨isInt_iff a0, a1, a2⟩, ⟨isStr_iff b0, b1, b2⟩, ⟨isInt_iff c0, c1, c2⟩, isInt_iff e0, e1, e2⟩
    · cases h
  · cases h
theorem tok_ok : tokOk Tryz.prog 41 = true := by kernel_rfl
theorem tok_underlying : Tryz.prog.underlying 24 = some (.slice 41) := by kernel_rfl
theorem tok_cellsOf : Tryz.prog.cellsOf 41 = 4 := by kernel_rfl

set_option maxRecDepth 100000 in
/-- One token's four cells. -/
theorem tok_one {H : Type} {enc : TypeId × Value → H} {w : World} {base : Nat} {spare : Nat → Bool} {held : Bool} {n : Nat} {cs : List Value} {y : DataW H × List MemPlace}
    (h : DataW.trod enc Tryz.prog w base spare held n 41 cs = some y) : ∃ x : PAll.S, cs = [.int .i64 x.f0, .string x.f1, .int .i64 x.f2, .int .i64 x.f3] := by
  obtain ⟨f0, f1, f2, f3, hu, ⟨a0, a1, a2⟩, ⟨b0, b1, b2⟩, ⟨c0, c1, c2⟩, e0', e1', e2'⟩ := tokOk_open tok_ok
  obtain ⟨xs, m, _, _, hl, hlen, hx⟩ := DataW.trod_struct hu h
  rw [tok_cellsOf] at hl
  have hlen4 : xs.length = 4 := hlen
  have t0 := hx 0 f0 rfl
  have t1 := hx 1 f1 rfl
  have t2 := hx 2 f2 rfl
  have t3 := hx 3 f3 rfl
  rw [a1, a2, List.getElem?_eq_getElem (by omega)] at t0
  rw [b1, b2, List.getElem?_eq_getElem (by omega)] at t1
  rw [c1, c2, List.getElem?_eq_getElem (by omega)] at t2
  rw [e1', e2', List.getElem?_eq_getElem (by omega)] at t3
  obtain ⟨k, e0, _, _⟩ := DataW.trod_int (k := .i64) a0 t0
  obtain ⟨s, e1, _, _⟩ := DataW.trod_string b0 t1
  obtain ⟨N, e2, _, _⟩ := DataW.trod_int (k := .i64) c0 t2
  obtain ⟨p, e3, _, _⟩ := DataW.trod_int (k := .i64) e0' t3
  refine ⟨⟨k, s, N, p⟩, ?_⟩
  match cs, hl with
  | [c0, c1, c2, c3], _ =>
    simp at e0 e1 e2 e3
    rw [e0, e1, e2, e3]
/-- The tokens of a slice. -/
theorem open_toks {H : Type} {enc : TypeId × Value → H} {w : World} {a : Option Addr} {len cap : Nat} {d : DataW H} {ps : List MemPlace}
    (h : DataW.Trod enc Tryz.prog w 0 (fun _ => true) true 24 (.slice a len cap) d ps) : ∃ xs : List PAll.S, xs.length = len ∧ len ≤ cap ∧ Kd.C PAll.k41 w a len xs := by
  obtain ⟨fuel, hf⟩ := h
  rcases DataW.trod_slice tok_underlying hf with ⟨hcs, _⟩ | ⟨ad, len', cap', elems, rest, n, _, hcs, _, hb, hl, hm, hlen, hel, _, _⟩
  · simp [Value.cells] at hcs
    obtain ⟨rfl, rfl, rfl⟩ := hcs
    exact ⟨[], rfl, Nat.le_refl _, rfl, Nat.zero_le _, fun h => absurd h (by omega)⟩
  · simp [Value.cells] at hcs
    obtain ⟨rfl, rfl, rfl⟩ := hcs
    have each : ∀ i, i < len → ∃ x : PAll.S, ∀ j u, [Value.int .i64 x.f0, .string x.f1, .int .i64 x.f2, .int .i64 x.f3][j]? = some u → w.cell? (ad.add (i * 4 + j)) = some u := by
      intro i hi
      have h1 := hel i hi
      rw [List.getElem?_eq_getElem (by omega), Option.bind_eq_some_iff, tok_cellsOf] at h1
      obtain ⟨cs, hcs, htr⟩ := h1
      obtain ⟨x, rfl⟩ := tok_one htr
      obtain ⟨_, _, hcell⟩ := World.cells?_some hcs
      refine ⟨x, fun j u hj => ?_⟩
      have hj4 : j < 4 := by
        have := (List.getElem?_eq_some_iff.1 hj).1
        simpa using this
      have h2 := hcell j hj4
      rw [hj] at h2
      have hs := World.cell?_spot h2
      have e : (ad.add (i * 4)).add j = ad.add (i * 4 + j) := by
        unfold Addr.add
        by_cases h0 : i * 4 = 0
        · simp [h0]
        · by_cases hj0 : j = 0
          · simp [h0, hj0]
          · simp [h0, hj0, Nat.add_assoc]
      rw [← e]
      exact h2
    refine ⟨(List.range len).map fun i => if hi : i < len then Classical.choose (each i hi) else PAll.z41, by simp, hl, by simp, ?_, fun _ => ⟨ad, rfl, fun j p hj => ?_⟩⟩
    · have : maxLen ≤ 9223372036854775807 := by decide
      omega
    · rw [List.getElem?_map] at hj
      obtain ⟨i, hi, rfl⟩ := Option.map_eq_some_iff.1 hj
      have hlt : j < len := by
        have := (List.getElem?_eq_some_iff.1 hi).1
        simpa using this
      rw [List.getElem?_range hlt] at hi
      cases hi
      rw [dif_pos hlt]
      exact ⟨_, rfl, PAll.k41_mk w _, Classical.choose_spec (each j hlt)⟩
end Go.Proofs.YtkijoeihkajlcaaGreatDoor

set_option linter.unusedVariables false
set_option linter.unusedSimpArgs false
namespace Go.Proofs.YtkijoeihkajlcaaGreatDoor
open Go.ChangeShapes Go.WideShapes Go.ChangeAt Go.RowKit Go.ChangeMaps

theorem laidOutLexWords : laidOutB Tryz.prog = true := by kernel_rfl
set_option maxRecDepth 100000 in
theorem liftedLexWords (os : Os) (started : os.Started) (H : Type) (enc : TypeId × Value → H) :
    ReturnsInHanded {} Tryz.checked os 5 .any (fun w args => (Rows.lexWordsSpec.pre enc Tryz.prog Tryz.f5 Rows.lexWordsRow.domain false w args ∧ laidMetH Tryz.prog Rows.lexWordsRow.laid w) ∧ sizedMet enc Tryz.prog Tryz.f5 (OpenSpec.ofChange Rows.lexWordsSpec) false w args)
      (Rows.lexWordsSpec.post enc Tryz.prog Tryz.f5 false true false false) := by
  refine returnsInHanded_of_change_and (C := Tryz.checked) (X := fun w _ => laidMetH Tryz.prog laidL w) (fun _ _ _ hh h => h.of_heap hh) ownK started (by kernel_rfl) Tryz.func5
    (ChangeSpec.witness_shaped (enc := enc) (C := Tryz.checked) (os := os) (X := fun w _ => laidMetH Tryz.prog laidL w) false (World.laidAll Tryz.prog os laidL) #[.slice none 0 0, .slice none 0 0] 8 (World.laidAll_os _ _ _)
      (World.shaped_of_ZipB (by kernel_rfl) (by kernel_rfl)) (by kernel_rfl) (by kernel_rfl) (by kernel_rfl)
      (by rw [MakeChecks.laidMetH_plain _ _ _ (by kernel_rfl)]; exact laidMet_laidAll _ (by kernel_rfl) (by kernel_rfl))) ?_
  intro W base args ds gs before hval0 hW hc _ hL _
  have hval : ∀ (j : Nat) t v, Tryz.f5.params[j]? = some t → args[j]? = some v → Value.okWide Tryz.prog W .any base t v := hval0
  have hW' := hW
  obtain ⟨p, q, hA0, hV, rfl, _, _⟩ := hW
  have hA : DataW.TrodAll enc Tryz.prog W 0 (fun _ => true) true Tryz.f5.params.toList args.toList ds p := hA0
  rw [Tryz.params5] at hA hval
  obtain ⟨v0, vs0, d0, ds0, p0, q0, hargs, rfl, rfl, h0, r0⟩ := trodAll_cons hA
  obtain ⟨v1, vs1, d1, ds1, p1, q1, rfl, rfl, rfl, h1, r1⟩ := trodAll_cons r0
  obtain ⟨rfl, rfl, rfl⟩ := trodAll_nil r1
  obtain rfl : args = #[v0, v1] := by cases args; simp_all
  obtain ⟨rfl, rfl⟩ := trodVars_none hV
  obtain ⟨a0, len0, cap0, rfl⟩ := okWide_slice tok_underlying (hval 0 24 v0 rfl rfl)
  have lt0 : ∀ x ∈ p0, x.block < W.heap.size := by obtain ⟨m, hm⟩ := h0; exact DataW.trod_lt m _ _ _ hm
  obtain ⟨xs0, rfl, hc0, hr0⟩ := open_toks h0
  obtain ⟨a1, len1, cap1, rfl⟩ := okWide_slice tok_underlying (hval 1 24 v1 rfl rfl)
  have lt1 : ∀ x ∈ p1, x.block < W.heap.size := by obtain ⟨m, hm⟩ := h1; exact DataW.trod_lt m _ _ _ hm
  obtain ⟨xs1, rfl, hc1, hr1⟩ := open_toks h1
  refine (PAll.LexWords_law a0 cap0 xs0 a1 cap1 xs1 W (laid_of_met hL) hr0 hc0 hr1 hc1).mono fun e W' ⟨he, hw⟩ => ?_
  subst he
  exact ⟨_, rfl, _, _, _, [], _, [], hW', trodAll_mk1 (shut_bool Tryz.underlying4 _), (trodAll_cons_mk (Below.trod laidOutLexWords (by kernel_rfl) (of_decide_eq_true (by kernel_rfl)) h0 hw lt0) (trodAll_cons_mk (Below.trod laidOutLexWords (by kernel_rfl) (of_decide_eq_true (by kernel_rfl)) h1 hw lt1) trodAll_mk0)), rfl, hw.frame _, fun h => by cases h⟩

theorem saidLexWords : Rows.LexWordsSaid :=
  OpenClaim.holds_of_wide 5 Tryz.f5 rfl rfl rfl rfl rfl rfl rfl ⟨rfl, rfl, rfl, rfl, rfl⟩ rfl rfl rfl rfl rfl (by kernel_rfl) Tryz.func5 (by kernel_rfl)
    (of_decide_eq_true (by kernel_rfl)) (by unfold Func.isWrapper; first | (rw [if_pos (by decide +kernel)]; kernel_rfl) | (rw [if_neg (by decide +kernel)]; exact ⟨rfl, rfl⟩))
    (fun os started H enc _ => liftedLexWords os started H enc)
theorem lexWords_card : Rows.LexWordsCardSaid :=
  Claim7.holds_tied_plain_at .later [] [.data, .data, .data, .listed, .data] true (true, "d79bfd299f331c135d09f50339ebf57002e8bc4b35c5cfb4f6adfd85170b8b9a") true saidLexWords (fun _ h => by cases h) (by kernel_rfl) (fun _ h => by cases h) lexWords_row_tie rfl ⟨rfl, rfl⟩ (by kernel_rfl) rfl
    (fun f fn hf hfn => by
      obtain rfl : f = 5 := Option.some.inj ((show Tryz.prog.funcNamed "sward/swardlaw02.LexWords" = some 5 by kernel_rfl).symm.trans hf) |>.symm
      obtain rfl : fn = Tryz.f5 := (Option.some.inj (Tryz.func5.symm.trans hfn)).symm
      exact ⟨by kernel_rfl, fun j t ht => by
        rw [Tryz.params5] at ht
        have hm : t ∈ [24, 24] := by simpa using Array.mem_of_getElem? ht
        have hall : ([24, 24].all fun u => !Tryz.prog.wantsStandIn u) = true := by kernel_rfl
        exact (show Tryz.prog.wantsStandIn t = false by simpa using List.all_eq_true.1 hall t hm)⟩)
    (by kernel_rfl)
#print axioms lexWords_card
end Go.Proofs.YtkijoeihkajlcaaGreatDoor
