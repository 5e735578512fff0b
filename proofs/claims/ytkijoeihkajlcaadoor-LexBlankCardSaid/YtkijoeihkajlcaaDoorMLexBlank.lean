/-
  LexBlank answers true for every input: the row and its tied card.
-/
import Derived.Test.YtkijoeihkajlcaaDoorMc
import Derived.Test.YtkijoeihkajlcaaDoorMp
import Derived.Test.YtkijoeihkajlcaaDoorRAll6
import Derived.Test.YtkijoeihkajlcaaDoorRows
import Derived.Test.YtkijoeihkajlcaaDoorCards
import Derived.Test.YtkijoeihkajlcaaDoorTie
import Derived.Lib.LaidTab
import Derived.Stop.LaidErr
import Derived.ProofKit
import Derived.OpenShut
import Derived.LaidMore
import Derived.Lay
import Derived.ChangeMaps5
import Derived.SevenTiedAt
import Derived.Stop.Joined

set_option linter.unusedVariables false
set_option linter.unusedSimpArgs false
namespace Go.Proofs.YtkijoeihkajlcaaDoor
open Go.RowKit Go.Shelf
open Go.Proofs.YtkijoeihkajlcaaDoorW.PrintWords (Kd OwnRow Reps own_nil own_slice own_weaken pw_own_below blk_new blk_cell add_field)

/-- Two tokens are the same, wherever they begin. -/
def likeT (a b : Tk) : Bool := decide (a.f0 = b.f0) && (decide (a.f1 = b.f1) && decide (a.f2 = b.f2))
def sameTL : List Tk → List Tk → Bool
  | [], _ => true
  | x :: xs, y :: ys => likeT x y && sameTL xs ys
  | _ :: _, [] => true
def sameT (xs ys : List Tk) : Bool := decide (xs.length = ys.length) && sameTL xs ys
theorem string_same (a b : ByteArray) : (a.toList == b.toList) = decide (a = b) := by
  rw [Bool.eq_iff_iff, beq_iff_eq, decide_eq_true_iff, bs_toList, bs_toList]
  constructor
  · intro h
    apply ByteArray.ext
    exact Array.toList_inj.1 h
  · rintro rfl; rfl
theorem int_same (a b : Int) : (a == b) = decide (a = b) := by rw [Bool.eq_iff_iff, beq_iff_eq, decide_eq_true_iff]

set_option maxRecDepth 100000 in
set_option maxHeartbeats 4000000 in
theorem same1_calls (a b : Tk) (w : World) : Calls Tryd.prog 48 #[.agg #[.int .i64 a.f0, .string a.f1, .int .i64 a.f2, .int .i64 a.f3], .agg #[.int .i64 b.f0, .string b.f1, .int .i64 b.f2, .int .i64 b.f3]] w fun e w' => e = .returned (.bool (likeT a b)) ∧ Below w.heap.size w w' := by
  obtain ⟨a0, a1, a2, a3⟩ := a
  obtain ⟨b0, b1, b2, b3⟩ := b
  have hB := Lib.hid (below_two w (.cells #[.int .i64 a0, .string a1, .int .i64 a2, .int .i64 a3] 37 (0, 0)) (.cells #[.int .i64 b0, .string b1, .int .i64 b2, .int .i64 b3] 37 (0, 0)))
  unfold likeT
  simp only
  rw [← string_same, ← int_same, ← int_same]
  go_enter Tryd.func48, Tryd.ntmps48
  cases h0 : (a0 == b0)
  · go_wp2
    go_ret
    exact ⟨rfl, hB.out⟩
  · cases h1 : (a1.toList == b1.toList)
    · go_wp2
      go_ret
      exact ⟨rfl, hB.out⟩
    · go_wp2
      go_ret
      exact ⟨rfl, hB.out⟩
theorem enters_same1 (args : Array Value) (w : World) : (callFunc 48 args).run Tryd.prog w = .ok (.enter 48 args) w := enters_of Tryd.func48 (by kernel_rfl) rfl args w
theorem sameTL_drop (xs ys : List Tk) (i : Nat) (h : i < xs.length) (h2 : i < ys.length) : sameTL (xs.drop i) (ys.drop i) = (likeT (xs.getD i zTk) (ys.getD i zTk) && sameTL (xs.drop (i + 1)) (ys.drop (i + 1))) := by
  rw [words_drop xs i h, words_drop ys i h2]
  rfl

set_option maxRecDepth 100000 in
set_option maxHeartbeats 4000000 in
theorem EqualFunc_calls (A : Option Addr) (c : Nat) (xs : List Tk) (A' : Option Addr) (c' : Nat) (ys : List Tk) (w : World) (hr : Kd.C kTk w A xs.length xs) (hr' : Kd.C kTk w A' ys.length ys) (hn : xs.length ≤ 140737488355328) (hn' : ys.length ≤ 140737488355328) :
    Calls Tryd.prog 47 #[.slice A xs.length c, .slice A' ys.length c', .func (.func 48) #[] #[]] w fun e w' => e = .returned (.bool (sameT xs ys)) ∧ Below w.heap.size w w' := by
  obtain ⟨T, hT⟩ : ∃ T, T = sameT xs ys := ⟨_, rfl⟩
  rw [← hT]
  unfold sameT at hT
  have hF := enters_same1
  by_cases hl : xs.length = ys.length
  · rw [decide_eq_true hl, Bool.true_and] at hT
    have hTh := Lib.hid hT
    have hrh := Lib.hid hr
    have hrh' := Lib.hid hr'
    have hlh := Lib.hid hl
    have hlb : ((xs.length : Int) != (ys.length : Int)) = false := by rw [hl]; exact bne_self_eq_false _
    clear hT hr hr' hl
    go_enter Tryd.func47, Tryd.ntmps47
    go_wp2
    go_loopg [17] xs.length (fun g v17 wr => ∃ i : Nat, v17 = .int .i64 i ∧ i ≤ xs.length ∧ Hid (g + i = xs.length) ∧ Hid (Below w.heap.size w wr) ∧ Hid (T = sameTL (xs.drop i) (ys.drop i)))
    case atStart => exact ⟨0, rfl, Nat.zero_le _, Lib.hid rfl, Lib.hid (Below.refl _ _), Lib.hid (by simpa using hTh.out)⟩
    case round =>
      obtain ⟨i, rfl, hi, hg, hB, hTi⟩ := hrel
      by_cases hlt : i < xs.length
      · have hlt2 : i < ys.length := by have := hlh.out; omega
        obtain ⟨ad, rfl, d0, d1, d2, d3⟩ := at_Tk (Kd.C_below hrh.out hB.out) i (by omega) (by omega)
        simp only [Int.toNat_natCast] at d0 d1 d2 d3
        have hdr := Lib.hid (sameTL_drop xs ys i hlt hlt2)
        obtain ⟨x, hx⟩ : ∃ x, x = xs.getD i zTk := ⟨_, rfl⟩
        obtain ⟨y, hy⟩ : ∃ y, y = ys.getD i zTk := ⟨_, rfl⟩
        have hBx := Lib.hid (hB.out.alloc hB.out.size (.cells #[.int .i64 x.f0, .string x.f1, .int .i64 x.f2, .int .i64 x.f3] 37 (0, 0)))
        obtain ⟨ad', rfl, e0, e1, e2, e3⟩ := at_Tk (Kd.C_below hrh'.out hBx.out) i (by omega) (by omega)
        simp only [Int.toNat_natCast] at e0 e1 e2 e3
        rw [← hx] at d0 d1 d2 d3 hdr
        rw [← hy] at e0 e1 e2 e3 hdr
        have hBy := Lib.hid (hBx.out.alloc (by have := hBx.out.size; simpa using this) (.cells #[.int .i64 y.f0, .string y.f1, .int .i64 y.f2, .int .i64 y.f3] 37 (0, 0)))
        clear hx hy
        have hsc := Lib.hid (same1_calls x y)
        go_wp2_with fail
        refine (hsc.out _).mono ?_
        rintro e w1 ⟨rfl, hb⟩
        have hB1 := Lib.hid (below_then hBy.out hb (Nat.le_refl _))
        clear hb
        cases hlk : likeT x y
        · go_wp2
          go_ret
          refine ⟨?_, hB1.out⟩
          rw [hTi.out, hdr.out, hlk]
          rfl
        · go_wp2
          go_roundg (xs.length - (i + 1))
          case measure => have := hg.out; omega
          case rel => exact ⟨i + 1, by go_num, by omega, Lib.hid (by omega), hB1, Lib.hid (by rw [hTi.out, hdr.out, hlk, Bool.true_and])⟩
      · go_wp2
        go_ret
        refine ⟨?_, hB.out⟩
        rw [hTi.out, List.drop_of_length_le (by omega)]
        rfl
  · rw [decide_eq_false hl, Bool.false_and] at hT
    subst hT
    have hlb : ((xs.length : Int) != (ys.length : Int)) = true := by rw [bne_iff_ne]; omega
    go_enter Tryd.func47, Tryd.ntmps47
    go_wp2
    go_ret
    exact ⟨rfl, Below.refl _ _⟩

set_option maxRecDepth 100000 in
set_option maxHeartbeats 4000000 in
theorem Same_calls (A : Option Addr) (c : Nat) (xs : List Tk) (A' : Option Addr) (c' : Nat) (ys : List Tk) (w : World) (hr : Kd.C kTk w A xs.length xs) (hr' : Kd.C kTk w A' ys.length ys) (hn : xs.length ≤ 140737488355328) (hn' : ys.length ≤ 140737488355328) :
    Calls Tryd.prog 29 #[.slice A xs.length c, .slice A' ys.length c'] w fun e w' => e = .returned (.bool (sameT xs ys)) ∧ Below w.heap.size w w' := by
  have hc := Lib.hid (EqualFunc_calls A c xs A' c' ys w hr hr' hn hn')
  clear hr hr'
  go_enter Tryd.func29, Tryd.ntmps29
  go_wp2_with fail
  refine hc.out.mono ?_
  rintro e w1 ⟨rfl, hb⟩
  go_wp2
  go_ret
  exact ⟨rfl, hb⟩
end Go.Proofs.YtkijoeihkajlcaaDoor

set_option linter.unusedVariables false
set_option linter.unusedSimpArgs false
namespace Go.Proofs.YtkijoeihkajlcaaDoor.PAll
open Go.RowKit Go.Shelf
open Go.Proofs.YtkijoeihkajlcaaDoorW.PrintWords

theorem bt_nat (s : ByteArray) (i : Nat) (h : i < s.size) : bt s (i : Int) = (s[i].toNat : Int) := by
  rw [← bt_at s i (by simpa using h)]
  rfl
theorem wrap_nat (n : Nat) (h : n < 9223372036854775807) : wrap64 ((n : Int)) = n := by unfold wrap64; omega
theorem wrap_succ (n : Nat) (h : n < 9223372036854775807) : wrap64 ((n : Int) + 1) = ((n + 1 : Nat) : Int) := by unfold wrap64; omega
theorem Ev.ite_pos {α : Type} {c : Prop} [Decidable c] {g f : Nat → Option α} {r : α} (hc : c) (h : Ev g r) : Ev (fun n => if c then g n else f n) r := by simpa [hc] using h
theorem Ev.ite_neg {α : Type} {c : Prop} [Decidable c] {g f : Nat → Option α} {r : α} (hc : ¬ c) (h : Ev f r) : Ev (fun n => if c then g n else f n) r := by simpa [hc] using h
theorem blank_f (c : UInt8) : swardref02_blank.f (c.toNat : Int) = some (Lx.isBlank c) := by
  unfold swardref02_blank.f Lx.isBlank
  split
  · rename_i h; have : c.toNat = 32 := by omega
    simp [this]
  · split
    · rename_i h1 h; have : c.toNat = 9 := by omega
      simp [this]
    · rename_i h1 h2
      have a : (c.toNat == 32) = false := by simp; omega
      have b : (c.toNat == 9) = false := by simp; omega
      rw [a, b, Bool.false_or, Bool.false_or]
      congr 1
      rw [Bool.eq_iff_iff, beq_iff_eq, beq_iff_eq]
      omega
theorem Ev.succ {α : Type} {g : Nat → Option α} {r : α} (h : Ev (fun k => g (k + 1)) r) : Ev g r := Ev.step (fun _ => rfl) h
theorem ev_skip (s : ByteArray) (hs : s.size ≤ 4200) : ∀ (n i : Nat), i ≤ s.size → s.size - i = n →
    Ev (fun k => swardref02_skip.l0 k s i) ((i + Lx.skipF false (s.data.toList.drop i) : Nat) : Int) ∧ Ev (fun k => swardref02_skip.l1 k s i) ((i + Lx.skipF true (s.data.toList.drop i) : Nat) : Int) := by
  intro n
  induction n with
  | zero =>
    intro i hi hn
    have he : s.data.toList.drop i = [] := List.drop_of_length_le (by simp; omega)
    have h1 : ¬ ((i : Int) < (s.size : Int)) := by omega
    have h0 : Ev (fun k => swardref02_skip.l0 k s i) ((i + Lx.skipF false (s.data.toList.drop i) : Nat) : Int) := by
      rw [he]
      refine Ev.succ (Ev.succ ?_)
      simp only [swardref02_skip.l0, swardref02_skip.j1, h1, if_false, Bool.false_eq_true]
      exact Ev.now _
    refine ⟨h0, Ev.succ ?_⟩
    simp only [swardref02_skip.l1, h1, if_false]
    rw [he] at h0 ⊢
    exact h0
  | succ n ih =>
    intro i hi hn
    have hlt : i < s.size := by omega
    obtain ⟨ih0, ih1⟩ := ih (i + 1) (by omega) (by omega)
    have hd := drop_cons s i hlt
    rw [hd]
    have hb := bt_nat s i hlt
    have hw := wrap_succ i (by omega)
    have h1 : (i : Int) < (s.size : Int) := by omega
    have h2 : (0 : Int) ≤ (i : Int) := by omega
    have h0 : Ev (fun k => swardref02_skip.l0 k s i) ((i + Lx.skipF false (s[i] :: s.data.toList.drop (i + 1)) : Nat) : Int) := by
      by_cases hbl : Lx.isBlank s[i] = true
      · have hn35 : ¬ ((s[i].toNat : Int) = 35) := by
          intro h
          have : s[i].toNat = 35 := by omega
          simp [Lx.isBlank, this] at hbl
        refine Ev.succ (Ev.succ ?_)
        simp only [swardref02_skip.l0, swardref02_skip.j1, h1, h2, if_true, hb, blank_f, Option.bind_some, hbl, hn35, if_false, hw]
        simp only [Lx.skipF, hbl, if_true]
        rw [show i + (Lx.skipF false (s.data.toList.drop (i + 1)) + 1) = i + 1 + Lx.skipF false (s.data.toList.drop (i + 1)) by omega]
        exact ih0
      · by_cases h35 : s[i].toNat = 35
        · have e35 : ((s[i].toNat : Int) == 35) = true := by simp; omega
          have f35 : (s[i].toNat : Int) = 35 := by omega
          have f10 : ¬ (35 : Int) = 10 := by omega
          refine Ev.succ (Ev.succ (Ev.succ ?_))
          simp only [swardref02_skip.l0, swardref02_skip.j1, swardref02_skip.l1, h1, h2, if_true, hb, blank_f, Option.bind_some, hbl, e35, f35, if_false, Bool.false_eq_true, f10, hw, beq_self_eq_true]
          simp only [Lx.skipF, hbl, if_false, Bool.false_eq_true, h35, if_true]
          rw [show i + (Lx.skipF true (s.data.toList.drop (i + 1)) + 1) = i + 1 + Lx.skipF true (s.data.toList.drop (i + 1)) by omega]
          exact ih1
        · have e35 : ((s[i].toNat : Int) == 35) = false := by simp; omega
          refine Ev.succ (Ev.succ ?_)
          simp only [swardref02_skip.l0, swardref02_skip.j1, h1, h2, if_true, hb, blank_f, Option.bind_some, hbl, e35, if_false, Bool.false_eq_true]
          simp only [Lx.skipF, hbl, if_false, Bool.false_eq_true, h35, Nat.add_zero]
          exact Ev.now _
    refine ⟨h0, ?_⟩
    by_cases h10 : s[i].toNat = 10
    · have f10 : (s[i].toNat : Int) = 10 := by omega
      refine Ev.succ ?_
      simp only [swardref02_skip.l1, h1, h2, if_true, hb, f10]
      have : Lx.skipF true (s[i] :: s.data.toList.drop (i + 1)) = Lx.skipF false (s[i] :: s.data.toList.drop (i + 1)) := by
        simp [Lx.skipF, Lx.notNl, Lx.isBlank, h10]
      rw [this]
      exact h0
    · have f10 : ¬ ((s[i].toNat : Int) = 10) := by omega
      refine Ev.succ ?_
      simp only [swardref02_skip.l1, h1, h2, if_true, hb, f10, if_false, hw]
      have : Lx.skipF true (s[i] :: s.data.toList.drop (i + 1)) = Lx.skipF true (s.data.toList.drop (i + 1)) + 1 := by
        simp [Lx.skipF, Lx.notNl, h10]
      rw [this, show i + (Lx.skipF true (s.data.toList.drop (i + 1)) + 1) = i + 1 + Lx.skipF true (s.data.toList.drop (i + 1)) by omega]
      exact ih1
theorem ev_skip_f (s : ByteArray) (hs : s.size ≤ 4200) (i : Nat) (hi : i ≤ s.size) : Ev (fun k => swardref02_skip.f k s i) ((i + Lx.skipL (s.data.toList.drop i) : Nat) : Int) := (ev_skip s hs _ i hi rfl).1
theorem letter_f (c : UInt8) : swardref02_letter.f (c.toNat : Int) = some (Lx.isLet c) := by
  unfold swardref02_letter.f Lx.isLet
  split
  · rename_i h
    have a : decide (97 ≤ c.toNat) = true := decide_eq_true (by omega)
    rw [a, Bool.true_and]
    congr 1
    rw [decide_eq_decide]
    omega
  · rename_i h
    have a : decide (97 ≤ c.toNat) = false := decide_eq_false (by omega)
    rw [a, Bool.false_and]
theorem quoted_f (c : UInt8) : swardref02_quoted.f (c.toNat : Int) = some (Lx.isTxt c) := by
  unfold swardref02_quoted.f Lx.isTxt
  by_cases h1 : 32 ≤ c.toNat
  · have a1 : decide (32 ≤ c.toNat) = true := decide_eq_true h1
    rw [if_pos (by omega), a1, Bool.true_and]
    by_cases h2 : c.toNat ≤ 126
    · have a2 : decide (c.toNat ≤ 126) = true := decide_eq_true h2
      rw [if_pos (by omega), a2, Bool.true_and]
      by_cases h3 : c.toNat = 34
      · rw [if_pos (by omega)]
        simp [h3]
      · have a3 : decide (c.toNat ≠ 34) = true := decide_eq_true h3
        rw [if_neg (by omega), a3, Bool.true_and]
        congr 1
        rw [Bool.eq_iff_iff, bne_iff_ne, decide_eq_true_iff]
        omega
    · have a2 : decide (c.toNat ≤ 126) = false := decide_eq_false h2
      rw [if_neg (by omega), a2, Bool.false_and]
  · have a1 : decide (32 ≤ c.toNat) = false := decide_eq_false h1
    rw [if_neg (by omega), a1, Bool.false_and]
theorem ev_stuff (s : ByteArray) (hs : s.size ≤ 4200) : ∀ (n i m : Nat), i + m ≤ s.size → s.size - (i + m) = n →
    Ev (fun k => swardref02_stuff.l0 k s i m) ((m + Lx.runL Lx.isTxt (s.data.toList.drop (i + m)) : Nat) : Int) := by
  intro n
  induction n with
  | zero =>
    intro i m hi hn
    have he : s.data.toList.drop (i + m) = [] := List.drop_of_length_le (by simp; omega)
    rw [he]
    have hw : wrap64 ((i : Int) + m) = ((i + m : Nat) : Int) := by unfold wrap64; omega
    have h1 : ¬ (((i + m : Nat) : Int) < (s.size : Int)) := by omega
    refine Ev.succ ?_
    simp only [swardref02_stuff.l0, hw, h1, if_false]
    exact Ev.now _
  | succ n ih =>
    intro i m hi hn
    have hlt : i + m < s.size := by omega
    have ih0 := ih i (m + 1) (by omega) (by omega)
    have hd := drop_cons s (i + m) hlt
    rw [hd]
    have hb := bt_nat s (i + m) hlt
    have hw : wrap64 ((i : Int) + m) = ((i + m : Nat) : Int) := by unfold wrap64; omega
    have hw1 : wrap64 ((m : Int) + 1) = ((m + 1 : Nat) : Int) := by unfold wrap64; omega
    have h1 : ((i + m : Nat) : Int) < (s.size : Int) := by omega
    have h2 : (0 : Int) ≤ ((i + m : Nat) : Int) := by omega
    refine Ev.succ ?_
    by_cases hl : Lx.isTxt s[i + m] = true
    · simp only [swardref02_stuff.l0, hw, h1, h2, if_true, hb, quoted_f, Option.bind_some, hl, hw1]
      simp only [Lx.runL, hl, if_true]
      rw [show m + (Lx.runL Lx.isTxt (s.data.toList.drop (i + m + 1)) + 1) = m + 1 + Lx.runL Lx.isTxt (s.data.toList.drop (i + (m + 1))) by rw [show i + (m + 1) = i + m + 1 by omega]; omega]
      exact ih0
    · simp only [swardref02_stuff.l0, hw, h1, h2, if_true, hb, quoted_f, Option.bind_some, hl, if_false, Bool.false_eq_true]
      simp only [Lx.runL, hl, if_false, Bool.false_eq_true, Nat.add_zero]
      exact Ev.now _
def memB (xs : List ByteArray) (s : ByteArray) : Bool := xs.any fun x => decide (x.data.toList = s.data.toList)
theorem ev_among (xs : List ByteArray) (hx : xs.length ≤ 4000) (s : ByteArray) : ∀ (n i : Nat), i ≤ xs.length → xs.length - i = n →
    Ev (fun k => swardref02_among.l0 k xs s i) (memB (xs.drop i) s) := by
  intro n
  induction n with
  | zero =>
    intro i hi hn
    have he : xs.drop i = [] := List.drop_of_length_le (by omega)
    have h1 : ¬ ((i : Int) < (xs.length : Int)) := by omega
    refine Ev.succ ?_
    simp only [swardref02_among.l0, h1, if_false, he]
    exact Ev.now _
  | succ n ih =>
    intro i hi hn
    have hlt : i < xs.length := by omega
    have ih0 := ih (i + 1) (by omega) (by omega)
    have hw := wrap_succ i (by omega)
    have h1 : (i : Int) < (xs.length : Int) := by omega
    have h2 : (0 : Int) ≤ (i : Int) := by omega
    have hr : rdOf ByteArray.empty xs (i : Int) = xs[i] := by simp [rdOf, List.getD_eq_getElem?_getD, List.getElem?_eq_getElem hlt]
    rw [List.drop_eq_getElem_cons hlt]
    unfold memB at ih0 ⊢
    rw [List.any_cons]
    refine Ev.succ ?_
    by_cases he : xs[i].toList = s.toList
    · have hes : xs[i].data.toList = s.data.toList := by rw [← bs_toList, he, bs_toList]
      simp only [swardref02_among.l0, h1, h2, if_true, hr, he]
      rw [decide_eq_true hes, Bool.true_or]
      exact Ev.now _
    · have hne : ¬ xs[i].data.toList = s.data.toList := fun h => he (by rw [bs_toList, bs_toList, h])
      simp only [swardref02_among.l0, h1, h2, if_true, hr, he, if_false, hw]
      rw [decide_eq_false hne, Bool.false_or]
      exact ih0
theorem memB_map (ls : List Lx.Bs) (s : ByteArray) : memB (ls.map bsOf) s = ls.contains s.data.toList := by
  unfold memB
  induction ls with
  | nil => rfl
  | cons l ls ih =>
    rw [List.map_cons, List.any_cons, ih, List.contains_cons]
    congr 1
    rw [Bool.eq_iff_iff, decide_eq_true_iff, beq_iff_eq]
    show l = _ ↔ _
    exact eq_comm
theorem keys_eq : swardref02_Keys.f = some (Lx.keyWords.map bsOf) := rfl
theorem signs_eq : swardref02_Signs.f = some (Lx.signWords.map bsOf) := rfl
theorem ev_Key (s : ByteArray) : Ev (fun k => swardref02_Key.f k s) (Lx.isKey s.data.toList) := by
  have ha := ev_among (Lx.keyWords.map bsOf) (by decide) s _ 0 (Nat.zero_le _) rfl
  rw [List.drop_zero, memB_map] at ha
  refine Ev.congr (fun k => ?_) ha
  unfold swardref02_Key.f
  rw [keys_eq]
  show Option.bind (swardref02_among.l0 k (Lx.keyWords.map bsOf) s 0) (fun t => some t) = swardref02_among.l0 k (Lx.keyWords.map bsOf) s 0
  cases swardref02_among.l0 k (Lx.keyWords.map bsOf) s 0 <;> rfl
theorem ext_eq (s : ByteArray) (a n b : Nat) (h : b = a + n) : s.extract a b = bsOf ((s.data.toList.drop a).take n) := by
  have := extract_eq s a n b h
  unfold strV at this
  injection this
end Go.Proofs.YtkijoeihkajlcaaDoor.PAll

set_option linter.unusedVariables false
set_option linter.unusedSimpArgs false
namespace Go.Proofs.YtkijoeihkajlcaaDoor.PAll
open Go.RowKit Go.Shelf
open Go.Proofs.YtkijoeihkajlcaaDoorW.PrintWords

theorem sameT_tok : ∀ (xs ys : List (Nat × Lx.Piece)), xs.map Prod.snd = ys.map Prod.snd → sameT (xs.map tokS) (ys.map tokS) = true := by
  have h : ∀ (xs ys : List (Nat × Lx.Piece)), xs.map Prod.snd = ys.map Prod.snd → sameTL (xs.map tokS) (ys.map tokS) = true := by
    intro xs
    induction xs with
    | nil => intro ys _; rfl
    | cons x xs ih =>
      intro ys hy
      cases ys with
      | nil => rfl
      | cons y ys =>
        simp only [List.map_cons, List.cons.injEq] at hy
        simp only [List.map_cons, sameTL, ih ys hy.2, Bool.and_true]
        simp [likeT, tokS, hy.1]
  intro xs ys hy
  unfold sameT
  rw [h xs ys hy, Bool.and_true, decide_eq_true_iff]
  have := congrArg List.length hy
  simpa using this
theorem gap_snd (ps : List (Nat × Lx.Piece)) (m d : Nat) : (ps.take m ++ (ps.drop m).map (fun x => (x.1 + d, x.2))).map Prod.snd = ps.map Prod.snd := by
  rw [List.map_append, List.map_map]
  have : (Prod.snd ∘ fun x : Nat × Lx.Piece => (x.1 + d, x.2)) = Prod.snd := rfl
  rw [this, ← List.map_append, List.take_append_drop]
theorem gap_at (ps : List (Nat × Lx.Piece)) (m d a : Nat) (p : Lx.Piece) (hm : m < ps.length) (h : ps[m] = (a, p)) : ((ps.take m ++ (ps.drop m).map (fun x => (x.1 + d, x.2))).map tokS).getD m zTk = ⟨tokK p, tokT p, tokN p, ((a + d : Nat) : Int)⟩ := by
  rw [List.getD_eq_getElem?_getD, List.getElem?_map, List.getElem?_append_right (by rw [List.length_take]; omega)]
  have e : m - (ps.take m).length = 0 := by rw [List.length_take]; omega
  rw [e, List.drop_eq_getElem_cons hm, h]
  rfl
theorem gap_len (ps : List (Nat × Lx.Piece)) (m d : Nat) : (ps.take m ++ (ps.drop m).map (fun x => (x.1 + d, x.2))).length = ps.length := by
  have := congrArg List.length (gap_snd ps m d)
  simpa using this
theorem cut_data (s : ByteArray) (a : Nat) (ha : a ≤ s.size) : (s.extract 0 a).data.toList = s.data.toList.take a ∧ (s.extract a s.size).data.toList = s.data.toList.drop a := by
  refine ⟨?_, ?_⟩
  · rw [ext_eq s 0 a a (by omega), List.drop_zero]
    simp [bsOf]
  · rw [ext_eq s a (s.size - a) s.size (by omega), List.take_of_length_le (by simp)]
    simp [bsOf]

set_option maxRecDepth 100000 in
set_option maxHeartbeats 8000000 in
theorem LexBlank_law (s : ByteArray) (n : Int) (cm : ByteArray) (hnw : (Lit.int .i64 n).wf = true) (w : World) (hL : Laid w) :
    Calls Tryd.prog 9 #[.string s, .int .i64 n, .string cm] w fun e w' => e = .returned (.bool true) ∧ Below w.heap.size w w' := by
  have hkn := Lib.hid (fun w' (h : Laid w') => known_calls w' h)
  have hB0 := Lib.hid (Below.refl w.heap.size w)
  by_cases c1 : s.size ≤ 300
  · by_cases c2 : cm.size ≤ 40
    · go_enter Tryd.func9, Tryd.ntmps9
      go_wp2
      go_loopg [7] cm.size (fun g v7 wr => ∃ i : Nat, v7 = .int .i64 i ∧ i ≤ cm.size ∧ Hid (g + i = cm.size) ∧ wr = w ∧ Hid (∀ b ∈ cm.data.toList.take i, b ≠ 10))
      case atStart => exact ⟨0, rfl, Nat.zero_le _, Lib.hid rfl, rfl, Lib.hid (by simp)⟩
      case round =>
        obtain ⟨i, rfl, hi, hg, rfl, hnl⟩ := hrel
        by_cases hlt : i < cm.size
        · obtain ⟨k, hk⟩ : ∃ k, k = cm[i].toNat := ⟨_, rfl⟩
          by_cases h10 : k = 10
          · have q : ((cm[i].toNat : Int) == 10) = true := by rw [← hk, h10]; rfl
            clear hk
            go_wp2_with fail
            refine (hkn.out _ hL).mono ?_
            rintro e w1 ⟨rfl, hb⟩
            have hB1 := Lib.hid hb
            clear hb
            go_wp2
            go_ret
            exact ⟨rfl, hB1.out⟩
          · have q : ((cm[i].toNat : Int) == 10) = false := by rw [← hk, beq_eq_false_iff_ne]; omega
            have hne : cm[i] ≠ 10 := fun h => h10 (by rw [hk, h]; rfl)
            have hnl2 := Lib.hid (show ∀ b ∈ cm.data.toList.take (i + 1), b ≠ 10 by
              rw [List.take_succ_eq_append_getElem (by simpa using hlt)]
              intro b hb
              rcases List.mem_append.1 hb with hb | hb
              · exact hnl.out b hb
              · rw [List.mem_singleton] at hb
                rw [hb]
                exact hne)
            clear hk hne
            go_wp2
            go_roundg (cm.size - (i + 1))
            case measure => have := hg.out; omega
            case rel => exact ⟨i + 1, by go_num, by omega, Lib.hid (by omega), rfl, hnl2⟩
        · have hnl2 := Lib.hid (show ∀ b ∈ cm.data.toList, b ≠ 10 by
            have := hnl.out
            rwa [List.take_of_length_le (by simp; omega)] at this)
          clear hnl
          have hsl : s.data.toList.length = s.size := by simp
          have hcl : cm.data.toList.length = cm.size := by simp
          obtain ⟨ps, er, hrd⟩ : ∃ ps er, Lx.readAll s.data.toList = (ps, er) := ⟨_, _, rfl⟩
          cases er with
          | some x =>
            have hT := Lib.hid (Tokens_calls s _ hL [] 4 (by unfold Lx.toks; rw [if_neg (by omega), hrd]))
            clear hrd hsl hcl
            go_wp2_with fail
            refine hT.out.mono ?_
            rintro e w1 ⟨⟨tk, rfl, ho⟩, hb⟩
            have hB1 := Lib.hid hb
            obtain ⟨A, c, rfl⟩ := own_slice ho
            clear ho hb
            simp only [List.map_nil, List.length_nil]
            go_wp2_with fail
            refine (hkn.out _ (hL.below hB1.out)).mono ?_
            rintro e w2 ⟨rfl, hb⟩
            have hB2 := Lib.hid (Go.Proofs.YtkijoeihkajlcaaDoor.below_then hB1.out hb (Nat.le_refl _))
            clear hb
            go_wp2
            go_ret
            exact ⟨rfl, hB2.out⟩
          | none =>
            have hT := Lib.hid (Tokens_calls s _ hL ps 0 (by unfold Lx.toks; rw [if_neg (by omega), hrd]))
            obtain ⟨hf1, hf2, _, _⟩ := Lx.readAll_fits s.data.toList ps none hrd
            have hpl : ps.length ≤ 300 := by omega
            have hmap : (ps.map tokS).length = ps.length := List.length_map _
            by_cases hn : n < 0 ∨ (ps.length : Int) ≤ n
            · clear hrd hsl hcl hf1 hf2
              go_wp2_with fail
              refine hT.out.mono ?_
              rintro e w1 ⟨⟨tk, rfl, ho⟩, hb⟩
              have hB1 := Lib.hid hb
              obtain ⟨A, c, rfl⟩ := own_slice ho
              clear ho hb
              rw [hmap]
              clear hmap
              have hkn2 := hkn.out _ (hL.below hB1.out)
              by_cases hn1 : n < 0
              · have n1 : decide (n < 0) = true := decide_eq_true hn1
                clear hn
                go_wp2_with fail
                refine hkn2.mono ?_
                rintro e w2 ⟨rfl, hb⟩
                have hB2 := Lib.hid (Go.Proofs.YtkijoeihkajlcaaDoor.below_then hB1.out hb (Nat.le_refl _))
                clear hb
                go_wp2
                go_ret
                exact ⟨rfl, hB2.out⟩
              · have n1 : decide (n < 0) = false := decide_eq_false hn1
                have hn2 : (ps.length : Int) ≤ n := by omega
                have n2 : decide ((ps.length : Int) ≤ n) = true := decide_eq_true hn2
                clear hn
                go_wp2_with fail
                refine hkn2.mono ?_
                rintro e w2 ⟨rfl, hb⟩
                have hB2 := Lib.hid (Go.Proofs.YtkijoeihkajlcaaDoor.below_then hB1.out hb (Nat.le_refl _))
                clear hb
                go_wp2
                go_ret
                exact ⟨rfl, hB2.out⟩
            · obtain ⟨m, rfl⟩ : ∃ m : Nat, n = m := ⟨n.toNat, by omega⟩
              have hm : m < ps.length := by omega
              obtain ⟨a, p, hap⟩ : ∃ a p, ps[m] = (a, p) := ⟨_, _, rfl⟩
              have hat := hf1 ps[m] (List.getElem_mem hm)
              rw [hap] at hat
              have hal : a ≤ s.size := by have := hat.2; simp only at this; omega
              obtain ⟨cd1, cd2⟩ := cut_data s a hal
              have hgetm : ps[m]? = some (a, p) := by rw [List.getElem?_eq_getElem hm, hap]
              obtain ⟨q1, hq1⟩ : ∃ q1, q1 = ps.take m ++ (ps.drop m).map (fun x => (x.1 + 1, x.2)) := ⟨_, rfl⟩
              obtain ⟨q2, hq2⟩ : ∃ q2, q2 = ps.take m ++ (ps.drop m).map (fun x => (x.1 + (cm.size + 2), x.2)) := ⟨_, rfl⟩
              have hr1 := Lx.readAll_gap s.data.toList ps m a p hrd hgetm (by omega) [] 32 (.inl rfl) Lx.gap_blank
              have hr2 := Lx.readAll_gap s.data.toList ps m a p hrd hgetm (by omega) (cm.data.toList ++ [10]) 35 (.inr rfl) (Lx.gap_comment _ hnl2.out)
              rw [show ([] : Lx.Bs).length + 1 = 1 from rfl, ← hq1] at hr1
              have el : (cm.data.toList ++ [(10 : UInt8)]).length + 1 = cm.size + 2 := by rw [List.length_append, hcl]; rfl
              rw [el, ← hq2] at hr2
              have hz1 : (s.extract 0 a).size = a := by
                have : (s.extract 0 a).size = min a s.size - 0 := by simp
                omega
              have hz2 : (s.extract a s.size).size = s.size - a := by
                have : (s.extract a s.size).size = min s.size s.size - a := by simp
                omega
              have hT1 := Lib.hid (fun W hW => Tokens_calls (s.extract 0 a ++ ⟨#[32]⟩ ++ s.extract a s.size) W hW q1 0 (by
                have e : (s.extract 0 a ++ (⟨#[32]⟩ : ByteArray) ++ s.extract a s.size).data.toList = s.data.toList.take a ++ ((32 :: []) ++ s.data.toList.drop a) := by rw [← cd1, ← cd2]; simp
                unfold Lx.toks
                rw [e, hr1, if_neg (by simp; omega)]))
              have hT2 := Lib.hid (fun W hW => Tokens_calls (s.extract 0 a ++ ⟨#[35]⟩ ++ cm ++ ⟨#[10]⟩ ++ s.extract a s.size) W hW q2 0 (by
                have e : (s.extract 0 a ++ (⟨#[35]⟩ : ByteArray) ++ cm ++ (⟨#[10]⟩ : ByteArray) ++ s.extract a s.size).data.toList = s.data.toList.take a ++ ((35 :: (cm.data.toList ++ [10])) ++ s.data.toList.drop a) := by rw [← cd1, ← cd2]; simp
                unfold Lx.toks
                rw [e, hr2, if_neg (by simp; omega)]))
              have g1 := gap_at ps m 1 a p hm hap
              have g2 := gap_at ps m (cm.size + 2) a p hm hap
              have l1 := gap_len ps m 1
              have l2 := gap_len ps m (cm.size + 2)
              have s1 := gap_snd ps m 1
              have s2 := gap_snd ps m (cm.size + 2)
              rw [← hq1] at g1 l1 s1
              rw [← hq2] at g2 l2 s2
              have sm1 := sameT_tok q1 ps s1
              have sm2 := sameT_tok q2 ps s2
              have gp : (ps.map tokS).getD m zTk = ⟨tokK p, tokT p, tokN p, (a : Int)⟩ := by
                rw [List.getD_eq_getElem?_getD, List.getElem?_map, hgetm]
                rfl
              clear el hrd hsl hcl hf1 hf2 hat cd1 cd2 hgetm hr1 hr2 s1 s2 hap hq1 hq2 hnl2 hmap
              obtain ⟨xs, hxs⟩ : ∃ xs, xs = ps.map tokS := ⟨_, rfl⟩
              obtain ⟨x1, hx1⟩ : ∃ x1, x1 = q1.map tokS := ⟨_, rfl⟩
              obtain ⟨x2, hx2⟩ : ∃ x2, x2 = q2.map tokS := ⟨_, rfl⟩
              have hxl : xs.length = ps.length := by rw [hxs, List.length_map]
              have hxl1 : x1.length = xs.length := by rw [hx1, List.length_map, l1, hxl]
              have hxl2 : x2.length = xs.length := by rw [hx2, List.length_map, l2, hxl]
              rw [← hxs] at hT sm1 sm2 gp
              rw [← hx1] at hT1 sm1 g1
              rw [← hx2] at hT2 sm2 g2
              obtain ⟨tk0, tk1, tk2, htk⟩ : ∃ k0 k1 k2, (⟨k0, k1, k2⟩ : Int × ByteArray × Int) = (tokK p, tokT p, tokN p) := ⟨_, _, _, rfl⟩
              simp only [Prod.mk.injEq] at htk
              rw [← htk.1, ← htk.2.1, ← htk.2.2] at gp g1 g2
              clear htk
              have hmx : m < xs.length := by omega
              have hxb : xs.length ≤ 300 := by omega
              clear hxs hx1 hx2 hxl l1 l2 hm hpl
              replace gp := Lib.hid gp
              replace g1 := Lib.hid g1
              replace g2 := Lib.hid g2
              replace sm1 := Lib.hid sm1
              replace sm2 := Lib.hid sm2
              replace hxl1 := Lib.hid hxl1
              replace hxl2 := Lib.hid hxl2
              have n1 : decide ((m : Int) < 0) = false := decide_eq_false (by omega)
              have n2 : decide ((xs.length : Int) ≤ (m : Int)) = false := decide_eq_false (by omega)
              have n2n : decide (xs.length ≤ m) = false := decide_eq_false (by omega)
              go_wp2_with fail
              refine hT.out.mono ?_
              rintro e w1 ⟨⟨tk, rfl, ho⟩, hb⟩
              have hB1 := Lib.hid hb
              clear hb hT hn
              obtain ⟨A, c, rfl, hc, hr⟩ := Kd.R_reads ho.R
              replace hr := Lib.hid hr
              clear ho
              obtain ⟨ad, rfl, d0, d1, d2, d3⟩ := at_Tk hr.out m (by omega) (by omega)
              simp only [Int.toNat_natCast] at d0 d1 d2 d3
              rw [gp.out] at d0 d1 d2 d3
              simp only at d3
              clear d0 d1 d2
              have n3 : decide ((a : Int) < 0) = false := decide_eq_false (by omega)
              have n4 : decide ((s.size : Int) < (a : Int)) = false := decide_eq_false (by omega)
              have n4n : decide (s.size < a) = false := decide_eq_false (by omega)
              go_wp2_with fail
              go_region_with (go_at_call 18; refine (hT1.out _ ?hl).mono ?_; (case hl => exact hL.below ⟨hB1.out.os, hB1.out.tape, hB1.out.output, hB1.out.size, hB1.out.block⟩); rintro e w2 ⟨⟨tk1, rfl, ho1⟩, hb0⟩; have hb : Below w1.heap.size w1 w2 := ⟨hb0.os, hb0.tape, hb0.output, hb0.size, hb0.block⟩; clear hb0; have hB2 := Lib.hid (Go.Proofs.YtkijoeihkajlcaaDoor.below_then hB1.out hb (Nat.le_refl _)); have hr2 := Lib.hid (Kd.C_below hr.out hb); obtain ⟨A1, c1, rfl, hc1, hr1⟩ := Kd.R_reads ho1.R; replace hr1 := Lib.hid hr1; clear ho1 hb)
              have hz3 : cm.size + 0 ≤ 40 := by omega
              go_wp2_with fail
              go_region_with (go_at_call 18; refine (hT2.out _ ?hl).mono ?_; (case hl => exact hL.below ⟨hB2.out.os, hB2.out.tape, hB2.out.output, hB2.out.size, hB2.out.block⟩); rintro e w3 ⟨⟨tk2, rfl, ho2⟩, hb0⟩; have hb : Below w2.heap.size w2 w3 := ⟨hb0.os, hb0.tape, hb0.output, hb0.size, hb0.block⟩; clear hb0; have hB3 := Lib.hid (Go.Proofs.YtkijoeihkajlcaaDoor.below_then hB2.out hb (Nat.le_refl _)); have hr3 := Lib.hid (Kd.C_below hr2.out hb); have hr13 := Lib.hid (Kd.C_below hr1.out hb); obtain ⟨A2, c2, rfl, hc2, hr23⟩ := Kd.R_reads ho2.R; replace hr23 := Lib.hid hr23; clear ho2 hb)
              have hS1 := Lib.hid (Same_calls A1 c1 x1 (some ad) c xs w3 hr13.out hr3.out (by have := hxl1.out; omega) (by omega))
              have e1 : ((x1.length : Int) == (xs.length : Int)) = true := by rw [beq_iff_eq]; have := hxl1.out; omega
              have e2 : ((x2.length : Int) == (xs.length : Int)) = true := by rw [beq_iff_eq]; have := hxl2.out; omega
              have hmx1 : (m : Int) < (x1.length : Int) := by have := hxl1.out; omega
              have hmx2 : (m : Int) < (x2.length : Int) := by have := hxl2.out; omega
              go_wp2_with fail
              refine hS1.out.mono ?_
              rintro e w4 ⟨rfl, hb⟩
              have hB4 := Lib.hid (Go.Proofs.YtkijoeihkajlcaaDoor.below_then hB3.out hb (Nat.le_refl _))
              have hS2 := Lib.hid (Same_calls A2 c2 x2 (some ad) c xs w4 (Kd.C_below hr23.out hb) (Kd.C_below hr3.out hb) (by have := hxl2.out; omega) (by omega))
              replace hr13 := Lib.hid (Kd.C_below hr13.out hb)
              replace hr23 := Lib.hid (Kd.C_below hr23.out hb)
              rw [sm1.out]
              clear hb d3 hr hr2 hr1 hr3
              go_wp2_with fail
              refine hS2.out.mono ?_
              rintro e w5 ⟨rfl, hb⟩
              have hB5 := Lib.hid (Go.Proofs.YtkijoeihkajlcaaDoor.below_then hB4.out hb (Nat.le_refl _))
              obtain ⟨ad1, rfl, d10, d11, d12, d13⟩ := at_Tk (Kd.C_below hr13.out hb) m (by omega) hmx1
              obtain ⟨ad2, rfl, d20, d21, d22, d23⟩ := at_Tk (Kd.C_below hr23.out hb) m (by omega) hmx2
              simp only [Int.toNat_natCast] at d13 d23
              rw [g1.out] at d13
              rw [g2.out] at d23
              simp only at d13 d23
              rw [sm2.out]
              clear hb d10 d11 d12 d20 d21 d22 hr13 hr23
              obtain ⟨b1, hb1⟩ : ∃ b1 : Int, b1 = ((a + 1 : Nat) : Int) := ⟨_, rfl⟩
              obtain ⟨b2, hb2⟩ : ∃ b2 : Int, b2 = ((a + (cm.size + 2) : Nat) : Int) := ⟨_, rfl⟩
              have f1 : (b1 == (a : Int) + 1) = true := by rw [beq_iff_eq, hb1]; omega
              have f2 : (b2 == (a : Int) + (cm.size : Int) + 2) = true := by rw [beq_iff_eq, hb2]; omega
              rw [← hb1] at d13
              rw [← hb2] at d23
              clear hb1 hb2
              go_wp2_with fail
              refine (hkn.out _ (hL.below hB5.out)).mono ?_
              rintro e w6 ⟨rfl, hb⟩
              have hB6 := Lib.hid (Go.Proofs.YtkijoeihkajlcaaDoor.below_then hB5.out hb (Nat.le_refl _))
              clear hb
              go_wp2
              go_ret
              exact ⟨rfl, hB6.out⟩
    · go_enter Tryd.func9, Tryd.ntmps9
      go_wp2_with fail
      refine (hkn.out _ hL).mono ?_
      rintro e w1 ⟨rfl, hb⟩
      have hB1 := Lib.hid hb
      clear hb
      go_wp2
      go_ret
      exact ⟨rfl, hB1.out⟩
  · go_enter Tryd.func9, Tryd.ntmps9
    go_wp2_with fail
    refine (hkn.out _ hL).mono ?_
    rintro e w1 ⟨rfl, hb⟩
    have hB1 := Lib.hid hb
    clear hb
    go_wp2
    go_ret
    exact ⟨rfl, hB1.out⟩
end Go.Proofs.YtkijoeihkajlcaaDoor.PAll

set_option linter.unusedVariables false
set_option linter.unusedSimpArgs false
namespace Go.Proofs.YtkijoeihkajlcaaDoor
open Go.ChangeShapes Go.WideShapes Go.ChangeAt Go.RowKit Go.ChangeMaps

theorem ownK : ownKnob Tryd.prog.godebug = none := by kernel_rfl
def laidL : List (String × DataW Unit) := [("math/bits.deBruijn32tab", Rows.laid_math_bits_deBruijn32tab), ("math/bits.deBruijn64tab", Rows.laid_math_bits_deBruijn64tab), ("internal/strconv.uint64pow10", Rows.laid_internal_strconv_uint64pow10), ("unicode.White_Space", Rows.laid_unicode_White_Space), ("strings.asciiSpace", Rows.laid_strings_asciiSpace)]
theorem laid_of_met {W : World} (h : laidMetH Tryd.prog laidL W) : Laid W := by
  rw [MakeChecks.laidMetH_plain _ _ _ (by kernel_rfl)] at h
  have h3 := (show laidMet Tryd.prog [("internal/strconv.uint64pow10", Rows.laid_internal_strconv_uint64pow10), ("unicode.White_Space", Rows.laid_unicode_White_Space), ("strings.asciiSpace", Rows.laid_strings_asciiSpace)] W from h.tail.tail)
  have h5 := (show laidMet Tryd.prog [("strings.asciiSpace", Rows.laid_strings_asciiSpace)] W from h3.tail.tail)
  rw [show (Rows.laid_strings_asciiSpace : DataW Unit) = Lib.tabData .u8 Lib.asciiSpaceTab by kernel_rfl] at h5
  rw [show (Rows.laid_internal_strconv_uint64pow10 : DataW Unit) = Lib.tabData .u64 Lib.pow10Tab by kernel_rfl] at h3
  refine ⟨?_, ?_⟩
  · exact Lib.tabIs_of_head (g := (Tryd.prog.globalNamed "strings.asciiSpace").getD 0) (t := ((Tryd.prog.globals[(Tryd.prog.globalNamed "strings.asciiSpace").getD 0]?).map (·.type)).getD 0) (e := 5) (n := 256) (by kernel_rfl) (by kernel_rfl) (by kernel_rfl) (by kernel_rfl) (by kernel_rfl) (by kernel_rfl) h5
  · exact Lib.tabIs_of_head (g := (Tryd.prog.globalNamed "internal/strconv.uint64pow10").getD 0) (t := ((Tryd.prog.globals[(Tryd.prog.globalNamed "internal/strconv.uint64pow10").getD 0]?).map (·.type)).getD 0) (e := 133) (n := Lib.pow10Tab.length) (by kernel_rfl) (by kernel_rfl) (by kernel_rfl) (by kernel_rfl) (by kernel_rfl) (by kernel_rfl) h3

/-- Behind a call that keeps all that lay, where no argument holds an address. -/
theorem post_none {H : Type} {enc : TypeId × Value → H} {P : Program} {f : Func} {s : ChangeSpec} {apart fresh handsOn again : Bool} {W W' : World} {args : Array Value} {v : Value} {ds gs : List (DataW H)}
    (hW : DataW.Whole enc P f.params.toList s.vars apart W args.toList ds gs [])
    (hres : ∀ (b : Nat) (sp : Nat → Bool) (hd : Bool), DataW.TrodAll enc P W' b sp hd f.resultTypes.toList (v.resultList f.resultTypes.size) (s.fn H (ds ++ gs)).results [])
    (hargs : ∀ sp : Nat → Bool, DataW.TrodAll enc P W' 0 sp true f.params.toList args.toList (s.fn H (ds ++ gs)).args [])
    (hvars : ∀ sp : Nat → Bool, DataW.TrodVars enc P W' sp s.vars (s.fn H (ds ++ gs)).vars [])
    (hk : W.keptBut W' (fun p => p ∈ ([] : List MemPlace)))
    (hok : ∀ (j : Nat) (t : TypeId) (r : Value), f.resultTypes[j]? = some t → (v.resultList f.resultTypes.size)[j]? = some r → Value.okWide P W' .any 0 t r) :
    s.post enc P f apart fresh handsOn again W args v W' := by
  refine ⟨ds, gs, [], [], [], [], hW, hres _ _ _, hargs _, hvars _, World.keptBut_mono (fun p hp => by cases hp) hk, fun _ => ?_⟩
  refine ⟨hok, _, _, ([] ++ []) ++ [], ⟨[] ++ [], [], trodAll_append (hargs _) (hres _ _ _), hvars _, rfl, ?_, fun _ => List.nodup_nil⟩, fun p hp _ => by cases hp⟩
  intro b off hp
  cases hp
end Go.Proofs.YtkijoeihkajlcaaDoor

set_option linter.unusedVariables false
set_option linter.unusedSimpArgs false
namespace Go.Proofs.YtkijoeihkajlcaaDoor
open Go.ChangeShapes Go.WideShapes Go.ChangeAt Go.RowKit Go.ChangeMaps

set_option maxRecDepth 100000 in
theorem liftedLexBlank (os : Os) (started : os.Started) (H : Type) (enc : TypeId × Value → H) :
    ReturnsInHanded {} Tryd.checked os 9 .any (fun w args => (Rows.lexBlankSpec.pre enc Tryd.prog Tryd.f9 Rows.lexBlankRow.domain false w args ∧ laidMetH Tryd.prog Rows.lexBlankRow.laid w) ∧ sizedMet enc Tryd.prog Tryd.f9 (OpenSpec.ofChange Rows.lexBlankSpec) false w args)
      (Rows.lexBlankSpec.post enc Tryd.prog Tryd.f9 false true false false) := by
  refine returnsInHanded_of_change_and (C := Tryd.checked) (X := fun w _ => laidMetH Tryd.prog laidL w) (fun _ _ _ hh h => h.of_heap hh) ownK started (by kernel_rfl) Tryd.func9
    (ChangeSpec.witness_shaped (enc := enc) (C := Tryd.checked) (os := os) (X := fun w _ => laidMetH Tryd.prog laidL w) false (World.laidAll Tryd.prog os laidL) #[.string ⟨#[]⟩, .int .i64 0, .string ⟨#[]⟩] 8 (World.laidAll_os _ _ _)
      (World.shaped_of_ZipB (by kernel_rfl) (by kernel_rfl)) (by kernel_rfl) (by kernel_rfl) (by kernel_rfl)
      (by rw [MakeChecks.laidMetH_plain _ _ _ (by kernel_rfl)]; exact laidMet_laidAll _ (by kernel_rfl) (by kernel_rfl))) ?_
  intro W base args ds gs before hval0 hW hc _ hL _
  have hval : ∀ (j : Nat) t v, Tryd.f9.params[j]? = some t → args[j]? = some v → Value.okWide Tryd.prog W .any base t v := hval0
  have hW' := hW
  obtain ⟨p, q, hA0, hV, rfl, _, _⟩ := hW
  have hA : DataW.TrodAll enc Tryd.prog W 0 (fun _ => true) true Tryd.f9.params.toList args.toList ds p := hA0
  rw [Tryd.params9] at hA hval
  obtain ⟨v0, vs0, d0, ds0, p0, q0, hargs, rfl, rfl, h0, r0⟩ := trodAll_cons hA
  obtain ⟨v1, vs1, d1, ds1, p1, q1, rfl, rfl, rfl, h1, r1⟩ := trodAll_cons r0
  obtain ⟨v2, vs2, d2, ds2, p2, q2, rfl, rfl, rfl, h2, r2⟩ := trodAll_cons r1
  obtain ⟨rfl, rfl, rfl⟩ := trodAll_nil r2
  obtain rfl : args = #[v0, v1, v2] := by cases args; simp_all
  obtain ⟨rfl, rfl⟩ := trodVars_none hV
  obtain ⟨a0, rfl, rfl, rfl, w0⟩ := open_string Tryd.underlying9 (hval 0 9 v0 rfl rfl) h0
  obtain ⟨a1, rfl, rfl, rfl, w1⟩ := open_int Tryd.underlying3 (hval 1 3 v1 rfl rfl) h1
  obtain ⟨a2, rfl, rfl, rfl, w2⟩ := open_string Tryd.underlying9 (hval 2 9 v2 rfl rfl) h2
  simp only [List.append_nil, List.nil_append] at hW'
  refine (PAll.LexBlank_law a0 a1 a2 w1 W (laid_of_met hL)).mono fun e W' ⟨he, hw⟩ => ?_
  subst he
  exact ⟨_, rfl, post_none hW' (fun _ _ _ => trodAll_mk1 (shut_bool Tryd.underlying4 _)) (fun sp => trodAll_mk3 (shut_string Tryd.underlying9 w0) (shut_int Tryd.underlying3 w1) (shut_string Tryd.underlying9 w2)) (fun _ => rfl) (hw.frame _) (ok_one (by kernel_rfl) rfl (okWide_bool_mk Tryd.underlying4 _))⟩

theorem saidLexBlank : Rows.LexBlankSaid :=
  OpenClaim.holds_of_wide 9 Tryd.f9 rfl rfl rfl rfl rfl rfl rfl ⟨rfl, rfl, rfl, rfl, rfl⟩ rfl rfl rfl rfl rfl (by kernel_rfl) Tryd.func9 (by kernel_rfl)
    (of_decide_eq_true (by kernel_rfl)) (by unfold Func.isWrapper; first | (rw [if_pos (by decide +kernel)]; kernel_rfl) | (rw [if_neg (by decide +kernel)]; exact ⟨rfl, rfl⟩))
    (fun os started H enc _ => liftedLexBlank os started H enc)
theorem lexBlank_card : Rows.LexBlankCardSaid :=
  Claim7.holds_tied_plain_at .later [] [.data, .data, .data, .listed, .data] true (true, "5b4db42141422620d803431d3e586301e422e1e551833148ccaf224fee0bee00") true saidLexBlank (fun _ h => by cases h) (by kernel_rfl) (fun _ h => by cases h) lexBlank_row_tie rfl ⟨rfl, rfl⟩ (by kernel_rfl) rfl
    (fun f fn hf hfn => by
      obtain rfl : f = 9 := Option.some.inj ((show Tryd.prog.funcNamed "sward/swardlaw02.LexBlank" = some 9 by kernel_rfl).symm.trans hf) |>.symm
      obtain rfl : fn = Tryd.f9 := (Option.some.inj (Tryd.func9.symm.trans hfn)).symm
      exact ⟨by kernel_rfl, fun j t ht => by
        rw [Tryd.params9] at ht
        have hm : t ∈ [9, 3, 9] := by simpa using Array.mem_of_getElem? ht
        have hall : ([9, 3, 9].all fun u => !Tryd.prog.wantsStandIn u) = true := by kernel_rfl
        exact (show Tryd.prog.wantsStandIn t = false by simpa using List.all_eq_true.1 hall t hm)⟩)
    (by kernel_rfl)
#print axioms lexBlank_card
end Go.Proofs.YtkijoeihkajlcaaDoor
