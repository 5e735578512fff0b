/-
  The chapter's examples: 'known' answers true.
-/
import Derived.Test.YtkijoeihkajlcaaDoorMb
import Derived.OwnWalk
import Derived.Deep.QuietTactic
import Derived.BigQuiet
import Derived.Lib.ItoaLen

set_option linter.unusedVariables false
set_option linter.unusedSimpArgs false
namespace Go.Proofs.YtkijoeihkajlcaaDoor
open Go.RowKit Go.Shelf
open Go.Proofs.YtkijoeihkajlcaaDoorW.PrintWords (Kd OwnRow Reps own_nil own_slice own_weaken pw_own_below)

/-- The tokens of a source, and a word on it. -/
def Lx.toks (l : Lx.Bs) : List (Nat × Lx.Piece) × Int :=
  if 4000 < l.length then ([], 3) else match Lx.readAll l with
    | (ps, none) => (ps, 0)
    | (_, some _) => ([], 4)
/-- What is wrong with a source, where, and a word on it. -/
def Lx.wrongs (l : Lx.Bs) : Int × Int × Int :=
  if 4000 < l.length then (0, 0, 3) else match Lx.readAll l with
    | (_, none) => (0, 0, 5)
    | (_, some (p, y)) => (p, y, 0)
/-- A slice of tokens of one's own. -/
def OwnToks (w' : World) (base : Nat) (v : Value) (xs : List Tk) : Prop := w'.ownsRow base 37 4 v xs.length (xs.flatMap tkL)
theorem OwnToks.nil (w' : World) (base : Nat) : OwnToks w' base (.slice none 0 0) [] := own_nil _ _ _ _
theorem reps_tk (w : World) (base : Nat) (ok : Nat → Prop) : ∀ xs : List Tk, Reps (kTk.M w base ok) 4 xs (xs.flatMap tkL) := by
  intro xs
  have : ∀ (ys xs : List Tk) (cs : List Value), Reps (kTk.M w base ok) 4 xs cs → Reps (kTk.M w base ok) 4 (xs ++ ys) (cs ++ ys.flatMap tkL) := by
    intro ys
    induction ys with
    | nil => intro xs cs h; simpa using h
    | cons y ys ih =>
      intro xs cs h
      have := ih (xs ++ [y]) (cs ++ tkL y) (h.snoc (kTk_mkM w base ok y) rfl)
      simpa using this
  simpa using this xs [] [] (Reps.none _ _)
theorem OwnToks.R {w' : World} {base : Nat} {v : Value} {xs : List Tk} (h : OwnToks w' base v xs) : Kd.R kTk 37 w' base (fun _ => True) v xs :=
  ⟨fun _ _ => trivial, _, h, reps_tk _ _ _ _⟩

theorem Below.drew' {B : Nat} {w W : World} (n : Nat) (h : Below B w W) : Below B w (W.drewN n) := ⟨h.os, h.tape, h.output, h.size, h.block⟩
set_option maxRecDepth 100000 in
set_option maxHeartbeats 4000000 in
theorem Tokens_calls (s : ByteArray) (w : World) (hL : Laid w) (ps : List (Nat × Lx.Piece)) (k : Int) (hk : Lx.toks s.data.toList = (ps, k)) :
    Calls Tryd.prog 18 #[.string s] w fun e w' => (∃ tk, e = .returned (.tuple #[tk, .int .i64 k]) ∧ OwnToks w' w.heap.size tk (ps.map tokS)) ∧ Below w.heap.size w w' := by
  have hkh := Lib.hid hk
  clear hk
  go_enter Tryd.func18, Tryd.ntmps18
  by_cases hs : s.size ≤ 4000
  · obtain ⟨qs, er, hrd⟩ : ∃ qs er, Lx.readAll s.data.toList = (qs, er) := ⟨_, _, rfl⟩
    have hrdh := Lib.hid hrd
    clear hrd
    go_wp2_with fail
    refine (read_calls s w hL hs qs er hrdh.out).mono ?_
    rintro e w1 ⟨hb, hR⟩
    have hbh := Lib.hid hb
    clear hb
    cases er with
    | none =>
      obtain ⟨tk, rfl, ho⟩ := hR
      obtain ⟨A, c, rfl⟩ := own_slice ho
      have hoh := Lib.hid ho
      clear ho
      have hfin : ps = qs ∧ k = 0 := by
        have := hkh.out
        rw [Lx.toks, if_neg (by simpa using hs), hrdh.out] at this
        simp only [Prod.mk.injEq] at this
        exact ⟨this.1.symm, this.2.symm⟩
      obtain ⟨rfl, rfl⟩ := hfin
      go_wp2
      go_ret2
      refine ⟨⟨_, rfl, ?_⟩, (hbh.out.alloc hbh.out.size _).alloc (by have := hbh.out.size; simp; omega) _⟩
      have h2 := pw_own_below hoh.out (below_two w1 (.cells #[.string s, .slice A ps.length c] 63 (0, 0)) (.cells #[.int .i64 0, .int .i64 0] 65 (0, 0)))
      unfold OwnToks
      rw [List.length_map, List.flatMap_map]
      exact h2
    | some x =>
      obtain ⟨p, y⟩ := x
      obtain rfl : e = _ := hR
      have hfin : ps = [] ∧ k = 4 := by
        have := hkh.out
        rw [Lx.toks, if_neg (by simpa using hs), hrdh.out] at this
        simp only [Prod.mk.injEq] at this
        exact ⟨this.1.symm, this.2.symm⟩
      obtain ⟨rfl, rfl⟩ := hfin
      go_wp2
      go_ret2
      exact ⟨⟨_, rfl, OwnToks.nil _ _⟩, (hbh.out.alloc hbh.out.size _).alloc (by have := hbh.out.size; simp; omega) _⟩
  · have hfin : ps = [] ∧ k = 3 := by
      have := hkh.out
      rw [Lx.toks, if_pos (by simp; omega)] at this
      simp only [Prod.mk.injEq] at this
      exact ⟨this.1.symm, this.2.symm⟩
    obtain ⟨rfl, rfl⟩ := hfin
    go_wp2
    go_ret2
    exact ⟨⟨_, rfl, OwnToks.nil _ _⟩, Below.refl _ _⟩

set_option maxRecDepth 100000 in
set_option maxHeartbeats 4000000 in
theorem Wrong_calls (s : ByteArray) (w : World) (hL : Laid w) (a b k : Int) (hk : Lx.wrongs s.data.toList = (a, b, k)) :
    Calls Tryd.prog 23 #[.string s] w fun e w' => e = .returned (.tuple #[.int .i64 a, .int .i64 b, .int .i64 k]) ∧ Below w.heap.size w w' := by
  have hkh := Lib.hid hk
  clear hk
  go_enter Tryd.func23, Tryd.ntmps23
  by_cases hs : s.size ≤ 4000
  · obtain ⟨qs, er, hrd⟩ : ∃ qs er, Lx.readAll s.data.toList = (qs, er) := ⟨_, _, rfl⟩
    have hrdh := Lib.hid hrd
    clear hrd
    go_wp2_with fail
    refine (read_calls s w hL hs qs er hrdh.out).mono ?_
    rintro e w1 ⟨hb, hR⟩
    have hbh := Lib.hid hb
    clear hb
    cases er with
    | none =>
      obtain ⟨tk, rfl, ho⟩ := hR
      obtain ⟨A, c, rfl⟩ := own_slice ho
      clear ho
      have hfin : 0 = a ∧ 0 = b ∧ 5 = k := by
        have := hkh.out
        rw [Lx.wrongs, if_neg (by simpa using hs), hrdh.out] at this
        simpa using this
      obtain ⟨rfl, rfl, rfl⟩ := hfin
      go_wp2
      go_ret3
      exact ⟨rfl, (hbh.out.alloc hbh.out.size _).alloc (by have := hbh.out.size; simp; omega) _⟩
    | some x =>
      obtain ⟨p, y⟩ := x
      obtain rfl : e = _ := hR
      have hfin : (p : Int) = a ∧ y = b ∧ 0 = k := by
        have := hkh.out
        rw [Lx.wrongs, if_neg (by simpa using hs), hrdh.out] at this
        simpa using this
      obtain ⟨rfl, rfl, rfl⟩ := hfin
      go_wp2
      go_quiet (fail)
      go_wp2
      go_ret3
      exact ⟨rfl, Below.drew' _ ((hbh.out.alloc hbh.out.size _).alloc (by have := hbh.out.size; simp; omega) _)⟩
  · have hfin : 0 = a ∧ 0 = b ∧ 3 = k := by
      have := hkh.out
      rw [Lx.wrongs, if_pos (by simp; omega)] at this
      simpa using this
    obtain ⟨rfl, rfl, rfl⟩ := hfin
    go_wp2
    go_ret3
    exact ⟨rfl, Below.refl _ _⟩
end Go.Proofs.YtkijoeihkajlcaaDoor

set_option linter.unusedVariables false
set_option linter.unusedSimpArgs false
namespace Go.Proofs.YtkijoeihkajlcaaDoor
open Go.RowKit Go.Shelf
open Go.Proofs.YtkijoeihkajlcaaDoorW.PrintWords (Kd OwnRow Reps own_nil own_slice own_weaken pw_own_below blk_new blk_cell)

/-- The piece of a token, if it is as defined. -/
def Lx.pieceOf (t : Tk) : Option Lx.Piece :=
  if t.f3 < 0 ∨ 4000 < t.f3 ∨ (t.f0 ≠ 3 ∧ t.f2 ≠ 0) then none
  else if t.f0 = 1 then if Lx.isName t.f1.data.toList then some (.word t.f1.data.toList) else none
  else if t.f0 = 2 then if Lx.isKey t.f1.data.toList then some (.word t.f1.data.toList) else none
  else if t.f0 = 3 then if t.f1 = ⟨#[]⟩ ∧ -1000000000 ≤ t.f2 ∧ t.f2 ≤ 1000000000 then some (.num t.f2) else none
  else if t.f0 = 4 then if t.f1.size ≤ 20 ∧ t.f1.data.toList.all Lx.isTxt then some (.str t.f1.data.toList) else none
  else if t.f0 = 5 then if t.f1.data.toList ∈ Lx.signWords then some (.sgn t.f1.data.toList) else none
  else none
def encOpt : Option Lx.Piece → Value
  | none => .nilIface
  | some p => encPiece p

set_option maxRecDepth 100000 in
set_option maxHeartbeats 4000000 in
theorem has_signs_calls (s : ByteArray) (b : Nat) (w : World) (hc : ∀ j, j < 17 → w.cell? ⟨b, j, none⟩ = some (strV (Lx.signWords.getD j []))) :
    Calls Tryd.prog 58 #[.slice (some ⟨b, 0, none⟩) 17 17, .string s] w fun e w' => e = .returned (.bool (decide (s.data.toList ∈ Lx.signWords))) ∧ w' = w := by
  have hzs : ∀ j, j < (Lx.signWords.map bsOf).length → w.cell? ⟨b, 0 + j, none⟩ = some (.string ((Lx.signWords.map bsOf).getD j ByteArray.empty)) := by
    intro j hj
    rw [Nat.zero_add, hc j (by have h17 : Lx.signWords.length = 17 := rfl
                               simp [h17] at hj; exact hj)]
    have hj' : j < Lx.signWords.length := by simpa using hj
    simp only [List.getD_eq_getElem?_getD, List.getElem?_map, List.getElem?_eq_getElem hj', Option.map_some, Option.getD_some]
    rfl
  have hcon := Lib.hid (Tryd.slices_Contains_string b 0 17 17 (Lx.signWords.map bsOf) s w (by decide) (by decide) hzs)
  have hmem : Lib.containsS ((Lx.signWords.map bsOf).take 17) s = decide (s.data.toList ∈ Lx.signWords) := by
    rw [Bool.eq_iff_iff, Lib.containsS_iff, decide_eq_true_iff, List.take_of_length_le (by decide), List.mem_map]
    constructor
    · rintro ⟨l, hl, rfl⟩
      simpa [bsOf] using hl
    · intro h
      exact ⟨_, h, by simp [bsOf]⟩
  rw [hmem] at hcon
  clear hzs hmem hc
  go_enter Tryd.func58, Tryd.ntmps58
  go_wp2_with fail
  refine hcon.out.mono ?_
  rintro e w' ⟨rfl, rfl⟩
  go_wp2
  go_ret
  exact ⟨rfl, rfl⟩

/-- The cells of a box behind a call. -/
theorem box_four {w w1 : World} {a b c d : Value} {ty : TypeId} (hb : Below (w.alloc (.cells #[a, b, c, d] ty (0, 0))).heap.size (w.alloc (.cells #[a, b, c, d] ty (0, 0))) w1) :
    w1.cell? ⟨w.heap.size, 0, none⟩ = some a ∧ w1.cell? ⟨w.heap.size, 1, none⟩ = some b ∧ w1.cell? ⟨w.heap.size, 2, none⟩ = some c ∧ w1.cell? ⟨w.heap.size, 3, none⟩ = some d := by
  have h : w1.heap[w.heap.size]? = some (.cells #[a, b, c, d] ty (0, 0)) := (hb.block _ (by simp)).trans (blk_new w _)
  exact ⟨blk_cell h 0, blk_cell h 1, blk_cell h 2, blk_cell h 3⟩

theorem bs_toList (s : ByteArray) : s.toList = s.data.toList := ByteArray.toList_eq s
set_option maxRecDepth 100000 in
set_option maxHeartbeats 4000000 in
theorem pieceOf_calls (k : Int) (s : ByteArray) (n p : Int) (w : World) (hL : Laid w) (hs : s.size ≤ 140737488355328) :
    Calls Tryd.prog 40 #[.agg #[.int .i64 k, .string s, .int .i64 n, .int .i64 p]] w fun e w' => e = .returned (encOpt (Lx.pieceOf ⟨k, s, n, p⟩)) ∧ Below w.heap.size w w' := by
  obtain ⟨T, hT⟩ : ∃ T, T = Lx.pieceOf ⟨k, s, n, p⟩ := ⟨_, rfl⟩
  rw [← hT]
  unfold Lx.pieceOf at hT
  simp only at hT
  by_cases c1 : p < 0 ∨ 4000 < p ∨ (k ≠ 3 ∧ n ≠ 0)
  · rw [if_pos c1] at hT
    subst hT
    go_enter Tryd.func40, Tryd.ntmps40
    by_cases d1 : p < 0
    · have d1b : decide (p < 0) = true := decide_eq_true d1
      go_wp2
      go_ret
      exact ⟨rfl, (Below.refl _ w).alloc (Nat.le_refl _) _⟩
    · have d1b : decide (p < 0) = false := decide_eq_false d1
      by_cases d2 : 4000 < p
      · have d2b : decide (4000 < p) = true := decide_eq_true d2
        go_wp2
        go_ret
        exact ⟨rfl, (Below.refl _ w).alloc (Nat.le_refl _) _⟩
      · have d2b : decide (4000 < p) = false := decide_eq_false d2
        have d3 : (k == 3) = false := by have : k ≠ 3 := by omega
                                         simpa using this
        have d4 : (n == 0) = false := by have : n ≠ 0 := by omega
                                         simpa using this
        have d3' : (k != 3) = true := by simp [bne, d3]
        have d4' : (n != 0) = true := by simp [bne, d4]
        go_wp2
        go_ret
        exact ⟨rfl, (Below.refl _ w).alloc (Nat.le_refl _) _⟩
  · rw [if_neg c1] at hT
    have d1b : decide (p < 0) = false := decide_eq_false (by omega)
    have d2b : decide (4000 < p) = false := decide_eq_false (by omega)
    have hTh := Lib.hid hT
    clear hT
    have hB0 := Lib.hid ((Below.refl _ w).alloc (Nat.le_refl _) (.cells #[.int .i64 k, .string s, .int .i64 n, .int .i64 p] 37 (0, 0)))
    by_cases k1 : k = 1
    · subst k1
      obtain rfl : n = 0 := by omega
      rw [if_pos rfl] at hTh
      clear c1
      go_enter Tryd.func40, Tryd.ntmps40
      go_wp2_with fail
      refine (Name_calls s _ (hL.below hB0.out) hs).mono ?_
      rintro e w1 ⟨rfl, hb⟩
      obtain ⟨e0, e1, e2, e3⟩ := box_four hb
      have hB1 := Lib.hid (below_then hB0.out hb (Nat.le_refl _))
      clear hb
      cases hnm : Lx.isName s.data.toList
      · rw [hnm] at hTh
        obtain rfl : T = none := hTh.out
        go_wp2
        go_quiet (fail)
        go_wp2
        go_ret
        exact ⟨rfl, Below.drew' _ hB1.out⟩
      · rw [hnm] at hTh
        obtain rfl : T = some _ := hTh.out
        go_wp2
        go_ret
        exact ⟨by simp [encOpt, encPiece, strV], hB1.out⟩
    · rw [if_neg k1] at hTh
      by_cases k2 : k = 2
      · subst k2
        obtain rfl : n = 0 := by omega
        rw [if_pos rfl] at hTh
        clear c1
        go_enter Tryd.func40, Tryd.ntmps40
        go_wp2_with fail
        refine (Key_calls s _ (hL.below hB0.out)).mono ?_
        rintro e w1 ⟨rfl, hb⟩
        obtain ⟨e0, e1, e2, e3⟩ := box_four hb
        have hB1 := Lib.hid (below_then hB0.out hb (Nat.le_refl _))
        clear hb
        cases hnm : Lx.isKey s.data.toList
        · rw [hnm] at hTh
          obtain rfl : T = none := hTh.out
          go_wp2
          go_quiet (fail)
          go_wp2
          go_ret
          exact ⟨rfl, Below.drew' _ hB1.out⟩
        · rw [hnm] at hTh
          obtain rfl : T = some _ := hTh.out
          go_wp2
          go_ret
          exact ⟨by simp [encOpt, encPiece, strV], hB1.out⟩
      · rw [if_neg k2] at hTh
        by_cases k3 : k = 3
        · subst k3
          rw [if_pos rfl] at hTh
          clear c1
          go_enter Tryd.func40, Tryd.ntmps40
          by_cases f1 : s = ⟨#[]⟩
          · subst f1
            by_cases f2 : -1000000000 ≤ n
            · have f2b : decide (-1000000000 ≤ n) = true := decide_eq_true f2
              by_cases f3 : n ≤ 1000000000
              · have f3b : decide (n ≤ 1000000000) = true := decide_eq_true f3
                rw [if_pos ⟨rfl, f2, f3⟩] at hTh
                obtain rfl : T = some _ := hTh.out
                go_wp2
                go_ret
                exact ⟨rfl, hB0.out⟩
              · have f3b : decide (n ≤ 1000000000) = false := decide_eq_false f3
                rw [if_neg (fun h => f3 h.2.2)] at hTh
                obtain rfl : T = none := hTh.out
                go_wp2
                go_quiet (fail)
                go_wp2
                go_ret
                exact ⟨rfl, Below.drew' _ hB0.out⟩
            · have f2b : decide (-1000000000 ≤ n) = false := decide_eq_false f2
              rw [if_neg (fun h => f2 h.2.1)] at hTh
              obtain rfl : T = none := hTh.out
              go_wp2
              go_quiet (fail)
              go_wp2
              go_ret
              exact ⟨rfl, Below.drew' _ hB0.out⟩
          · have f1b : (s.toList == ([] : List UInt8)) = false := by
              rw [beq_eq_false_iff_ne]
              intro h
              exact f1 (by apply ByteArray.ext; apply Array.ext'; rw [← bs_toList, h])
            rw [if_neg (fun h => f1 h.1)] at hTh
            obtain rfl : T = none := hTh.out
            go_wp2
            go_quiet (fail)
            go_wp2
            go_ret
            exact ⟨rfl, Below.drew' _ hB0.out⟩
        · rw [if_neg k3] at hTh
          obtain rfl : n = 0 := by omega
          clear c1
          by_cases k4 : k = 4
          · subst k4
            rw [if_pos rfl] at hTh
            go_enter Tryd.func40, Tryd.ntmps40
            by_cases f1 : s.size ≤ 20
            · have f1b : decide ((s.size : Int) ≤ 20) = true := decide_eq_true (by omega)
              go_wp2_with fail
              refine (only_calls Lx.isTxt 57 enters_text isText_calls isTxt_low s _ hs).mono ?_
              rintro e w1 ⟨rfl, hb⟩
              obtain ⟨e0, e1, e2, e3⟩ := box_four hb
              have hB1 := Lib.hid (below_then hB0.out hb (Nat.le_refl _))
              clear hb
              cases hnm : s.data.toList.all Lx.isTxt
              · rw [hnm, if_neg (fun h => by cases h.2)] at hTh
                obtain rfl : T = none := hTh.out
                go_wp2
                go_quiet (fail)
                go_wp2
                go_ret
                exact ⟨rfl, Below.drew' _ hB1.out⟩
              · rw [hnm, if_pos ⟨f1, rfl⟩] at hTh
                obtain rfl : T = some _ := hTh.out
                go_wp2
                go_ret
                exact ⟨by simp [encOpt, encPiece, strV], hB1.out⟩
            · have f1b : decide ((s.size : Int) ≤ 20) = false := decide_eq_false (by omega)
              rw [if_neg (fun h => f1 h.1)] at hTh
              obtain rfl : T = none := hTh.out
              go_wp2
              go_quiet (fail)
              go_wp2
              go_ret
              exact ⟨rfl, Below.drew' _ hB0.out⟩
          · rw [if_neg k4] at hTh
            by_cases k5 : k = 5
            · subst k5
              rw [if_pos rfl] at hTh
              go_enter Tryd.func40, Tryd.ntmps40
              go_wp2
              go_region_with (first | (go_at_call 59; refine (signs_calls _).mono ?_; rintro e w1 ⟨rfl, hcells, hb⟩; obtain ⟨e0, e1, e2, e3⟩ := box_four (show Below (w.alloc _).heap.size (w.alloc _) w1 from ⟨hb.os, hb.tape, hb.output, hb.size, hb.block⟩); simp at hcells; have hB1 := Lib.hid (below_then hB0.out (show Below (w.alloc _).heap.size (w.alloc _) w1 from ⟨hb.os, hb.tape, hb.output, hb.size, hb.block⟩) (Nat.le_refl _)); clear hb) | (go_at_call 58; refine (has_signs_calls s _ _ (by assumption)).mono ?_; rintro e w2 ⟨rfl, rfl⟩))
              all_goals
                by_cases hm : s.data.toList ∈ Lx.signWords
                · have hdm : decide (s.data.toList ∈ Lx.signWords) = true := decide_eq_true hm
                  rw [if_pos hm] at hTh
                  obtain rfl : T = some _ := hTh.out
                  go_wp2
                  go_ret
                  exact ⟨by simp [encOpt, encPiece, strV], hB1.out⟩
                · have hdm : decide (s.data.toList ∈ Lx.signWords) = false := decide_eq_false hm
                  rw [if_neg hm] at hTh
                  obtain rfl : T = none := hTh.out
                  go_wp2
                  go_ret
                  exact ⟨rfl, hB1.out⟩
            · rw [if_neg k5] at hTh
              obtain rfl : T = none := hTh.out
              have b1 : (k == 1) = false := by simpa using k1
              have b2 : (k == 2) = false := by simpa using k2
              have b3 : (k == 3) = false := by simpa using k3
              have b4 : (k == 4) = false := by simpa using k4
              have b5 : (k == 5) = false := by simpa using k5
              have b6 : (k != 3) = true := by simp [bne, b3]
              go_enter Tryd.func40, Tryd.ntmps40
              go_wp2
              go_quiet (fail)
              go_wp2
              go_ret
              exact ⟨rfl, Below.drew' _ hB0.out⟩
end Go.Proofs.YtkijoeihkajlcaaDoor

set_option linter.unusedVariables false
set_option linter.unusedSimpArgs false
namespace Go.Proofs.YtkijoeihkajlcaaDoor
open Go.RowKit Go.Shelf
open Go.Proofs.YtkijoeihkajlcaaDoorW.PrintWords (Kd OwnRow Reps own_nil own_slice own_weaken pw_own_below blk_new blk_cell)

/-- The text of a piece. -/
def Lx.spelled : Lx.Piece → Lx.Bs
  | .word l => l
  | .str l => 34 :: (l ++ [34])
  | .sgn l => l
  | .num n => if n < 0 then 126 :: Lib.itoa (-n) else Lib.itoa n

theorem assert_hit (D : Nat) (hD : D = 82 ∨ D = 85 ∨ D = 86 ∨ D = 84) (x : Value) (w : World) : (Instr.typeAssert (.iface D x) 69 D true).run Tryd.prog w = .ok (.tuple #[x, .bool true]) w := by
  rcases hD with rfl | rfl | rfl | rfl <;> kernel_rfl
theorem assert_str_word (b : Value) (w : World) : (Instr.typeAssert (.iface 85 (.agg #[b])) 69 82 true).run Tryd.prog w = .ok (.tuple #[.agg #[.string ⟨#[]⟩], .bool false]) w := by kernel_rfl
theorem assert_sign_word (b : Value) (w : World) : (Instr.typeAssert (.iface 86 (.agg #[b])) 69 82 true).run Tryd.prog w = .ok (.tuple #[.agg #[.string ⟨#[]⟩], .bool false]) w := by kernel_rfl
theorem assert_sign_str (b : Value) (w : World) : (Instr.typeAssert (.iface 86 (.agg #[b])) 69 85 true).run Tryd.prog w = .ok (.tuple #[.agg #[.string ⟨#[]⟩], .bool false]) w := by kernel_rfl
theorem assert_num_word (b : Value) (w : World) : (Instr.typeAssert (.iface 84 (.agg #[b])) 69 82 true).run Tryd.prog w = .ok (.tuple #[.agg #[.string ⟨#[]⟩], .bool false]) w := by kernel_rfl
theorem assert_num_str (b : Value) (w : World) : (Instr.typeAssert (.iface 84 (.agg #[b])) 69 85 true).run Tryd.prog w = .ok (.tuple #[.agg #[.string ⟨#[]⟩], .bool false]) w := by kernel_rfl
theorem assert_num_sign (b : Value) (w : World) : (Instr.typeAssert (.iface 84 (.agg #[b])) 69 86 true).run Tryd.prog w = .ok (.tuple #[.agg #[.string ⟨#[]⟩], .bool false]) w := by kernel_rfl

/-- What a piece may hold. -/
def PieceOk : Lx.Piece → Prop
  | .word l => l.length ≤ 4000
  | .str l => l.length ≤ 4000
  | .sgn l => l.length ≤ 4000
  | .num n => -1000000000 ≤ n ∧ n ≤ 1000000000

theorem below_grow {B : Nat} {w W : World} (os : Array Obj) (h : Below B w W) (hB : B ≤ W.heap.size) : Below B w (Sort.grow W os) :=
  ⟨h.os, h.tape, h.output, by show w.heap.size ≤ (W.heap ++ os).size; rw [Array.size_append]; have := h.size; omega, fun j hj => (Sort.heap_grow_old W os (by omega)).trans (h.block j hj)⟩
theorem itoa_calls (n : Int) (h : -1000000000 ≤ n ∧ n ≤ 1000000000) (w : World) (hL : Laid w) : Calls Tryd.prog 60 #[.int .i64 n] w fun e w' => e = .returned (.string ⟨(Lib.itoa n).toArray⟩) ∧ Below w.heap.size w w' := by
  refine (Tryd.strconv_Itoa n (by omega) (by omega) w hL.pow).mono ?_
  rintro e w' ⟨rfl, k, os, rfl⟩
  exact ⟨rfl, below_grow os (Below.drew' k (Below.refl w.heap.size w)) (Nat.le_refl _)⟩

set_option maxRecDepth 100000 in
set_option maxHeartbeats 4000000 in
theorem spelled_calls (p : Lx.Piece) (hp : PieceOk p) (w : World) (hL : Laid w) :
    Calls Tryd.prog 41 #[encPiece p] w fun e w' => e = .returned (strV (Lx.spelled p)) ∧ Below w.heap.size w w' := by
  cases p with
  | word l =>
    obtain ⟨b, hb⟩ : ∃ b : ByteArray, b = ⟨l.toArray⟩ := ⟨_, rfl⟩
    have e1 := assert_hit 82 (by simp)
    simp only [encPiece, Lx.spelled, strV]
    rw [← hb]
    have hbh := Lib.hid hb
    clear hb
    go_enter Tryd.func41, Tryd.ntmps41
    go_wp2
    go_ret
    exact ⟨rfl, (Below.refl _ w).alloc (Nat.le_refl _) _⟩
  | str l =>
    obtain ⟨b, hb⟩ : ∃ b : ByteArray, b = ⟨l.toArray⟩ := ⟨_, rfl⟩
    have e1 := assert_hit 85 (by simp)
    have e2 := assert_str_word
    have hfin : strV (34 :: (l ++ [34])) = .string ((⟨#[34]⟩ ++ b) ++ ⟨#[34]⟩) := by
      rw [hb]
      unfold strV
      congr 1
    simp only [encPiece, Lx.spelled]
    rw [hfin]
    unfold strV
    rw [← hb]
    have hsz : b.size ≤ 4000 := by rw [hb]; exact hp
    have hbh := Lib.hid hb
    clear hb
    clear hfin
    go_enter Tryd.func41, Tryd.ntmps41
    go_wp2
    go_ret
    exact ⟨rfl, (Below.refl _ w).alloc (Nat.le_refl _) _⟩
  | sgn l =>
    obtain ⟨b, hb⟩ : ∃ b : ByteArray, b = ⟨l.toArray⟩ := ⟨_, rfl⟩
    have e1 := assert_hit 86 (by simp)
    have e2 := assert_sign_word
    have e3 := assert_sign_str
    simp only [encPiece, Lx.spelled, strV]
    rw [← hb]
    have hbh := Lib.hid hb
    clear hb
    go_enter Tryd.func41, Tryd.ntmps41
    go_wp2
    go_ret
    exact ⟨rfl, (Below.refl _ w).alloc (Nat.le_refl _) _⟩
  | num n =>
    have e1 := assert_hit 84 (by simp)
    have e2 := assert_num_word
    have e3 := assert_num_str
    have e4 := assert_num_sign
    have hB0 := Lib.hid ((Below.refl _ w).alloc (Nat.le_refl _) (.cells #[.int .i64 n] 84 (0, 0)))
    simp only [encPiece, Lx.spelled]
    by_cases hn : n < 0
    · rw [if_pos hn]
      have hfin : strV (126 :: Lib.itoa (-n)) = .string (⟨#[126]⟩ ++ ⟨(Lib.itoa (-n)).toArray⟩) := by
        unfold strV
        congr 1
      rw [hfin]
      clear hfin
      go_enter Tryd.func41, Tryd.ntmps41
      go_wp2_with fail
      rw [show wrap64 (-n) = -n by have h1 := hp.1; have h2 := hp.2; unfold wrap64; omega]
      refine (itoa_calls (-n) (by have := hp.1; omega) _ (hL.below hB0.out)).mono ?_
      rintro e w1 ⟨rfl, hb⟩
      have hlen : (⟨(Lib.itoa (-n)).toArray⟩ : ByteArray).size ≤ 21 := by
        have h1 := hp.1
        have h2 := hp.2
        exact Lib.itoa_length_le (-n) (by omega) (by omega)
      obtain ⟨b, hbq⟩ : ∃ b : ByteArray, b = ⟨(Lib.itoa (-n)).toArray⟩ := ⟨_, rfl⟩
      rw [← hbq] at hlen ⊢
      have hbqh := Lib.hid hbq
      clear hbq
      go_wp2
      go_ret
      rw [← hbqh.out]
      exact ⟨rfl, below_then hB0.out hb (Nat.le_refl _)⟩
    · rw [if_neg hn]
      go_enter Tryd.func41, Tryd.ntmps41
      go_wp2_with fail
      refine (itoa_calls n hp _ (hL.below hB0.out)).mono ?_
      rintro e w1 ⟨rfl, hb⟩
      go_wp2
      go_ret
      exact ⟨rfl, below_then hB0.out hb (Nat.le_refl _)⟩
/-- The word of a token, and a word on it. -/
def Lx.word (t : Tk) : Lx.Bs × Int :=
  match Lx.pieceOf t with
  | none => ([], 2)
  | some p => (Lx.spelled p, 0)
theorem sign_short : ∀ x ∈ Lx.signWords, x.length ≤ 2 := by decide
theorem pieceOf_ok (t : Tk) (hs : t.f1.size ≤ 4000) (p : Lx.Piece) (h : Lx.pieceOf t = some p) : PieceOk p := by
  unfold Lx.pieceOf at h
  have hd : t.f1.data.toList.length ≤ 4000 := by simpa using hs
  split at h
  · cases h
  · split at h
    · split at h
      · cases h; exact hd
      · cases h
    · split at h
      · split at h
        · cases h; exact hd
        · cases h
      · split at h
        · split at h
          · rename_i hc; cases h; exact hc.2
          · cases h
        · split at h
          · split at h
            · cases h; exact hd
            · cases h
          · split at h
            · split at h
              · cases h; exact hd
              · cases h
            · cases h

set_option maxRecDepth 100000 in
set_option maxHeartbeats 4000000 in
theorem Word_calls (t : Tk) (hs : t.f1.size ≤ 4000) (w : World) (hL : Laid w) :
    Calls Tryd.prog 19 #[.agg (tokCs t)] w fun e w' => e = .returned (.tuple #[strV (Lx.word t).1, .int .i64 (Lx.word t).2]) ∧ Below w.heap.size w w' := by
  obtain ⟨k, s, n, p⟩ := t
  have hok := pieceOf_ok ⟨k, s, n, p⟩ hs
  simp only [tokCs]
  have hB0 := Lib.hid ((Below.refl _ w).alloc (Nat.le_refl _) (.cells #[.int .i64 k, .string s, .int .i64 n, .int .i64 p] 37 (0, 0)))
  unfold Lx.word
  obtain ⟨T, hT⟩ : ∃ T, T = Lx.pieceOf ⟨k, s, n, p⟩ := ⟨_, rfl⟩
  have hpc := pieceOf_calls k s n p (w.alloc (.cells #[.int .i64 k, .string s, .int .i64 n, .int .i64 p] 37 (0, 0))) (hL.below hB0.out) (by simp at hs; omega)
  rw [← hT] at hok hpc ⊢
  clear hT
  have hpch := Lib.hid hpc
  clear hpc
  go_enter Tryd.func19, Tryd.ntmps19
  go_wp2_with fail
  refine hpch.out.mono ?_
  rintro e w1 ⟨rfl, hb⟩
  have hB1 := Lib.hid (below_then hB0.out hb (Nat.le_refl _))
  clear hb
  have hen := eql_nil_nil
  cases T with
  | none =>
    simp only [encOpt]
    go_wp2
    go_ret2
    exact ⟨rfl, hB1.out⟩
  | some q =>
    simp only [encOpt]
    have hsp := Lib.hid (spelled_calls q (hok q rfl) w1 (hL.below hB1.out))
    obtain ⟨D, P, hq⟩ : ∃ D P, encPiece q = .iface D P := ⟨_, _, encPiece_eq q⟩
    rw [hq] at hsp ⊢
    have heh := eql_held_nil
    go_wp2_with fail
    refine hsp.out.mono ?_
    rintro e w2 ⟨rfl, hb⟩
    go_wp2
    go_ret2
    exact ⟨rfl, below_then hB1.out hb (by have := hB1.out.size; omega)⟩
end Go.Proofs.YtkijoeihkajlcaaDoor

set_option linter.unusedVariables false
set_option linter.unusedSimpArgs false
namespace Go.Proofs.YtkijoeihkajlcaaDoor
open Go.RowKit Go.Shelf
open Go.Proofs.YtkijoeihkajlcaaDoorW.PrintWords (Kd OwnRow Reps own_nil own_slice own_weaken pw_own_below blk_new blk_cell add_field print_append_of encs own_base own_le)

theorem at_Tk {w : World} {A : Option Addr} {n : Nat} {xs : List Tk} (h : Kd.C kTk w A n xs) (i : Int) (h0 : 0 ≤ i) (h1 : i < n) : ∃ ad , A = some ad ∧ w.cell? (ad.add (i.toNat * 4)) = some (.int .i64 (xs.getD i.toNat zTk).f0) ∧ w.cell? ⟨(ad.add (i.toNat * 4)).block, (ad.add (i.toNat * 4)).off + 1, none⟩ = some (.string (xs.getD i.toNat zTk).f1) ∧ w.cell? ⟨(ad.add (i.toNat * 4)).block, (ad.add (i.toNat * 4)).off + 2, none⟩ = some (.int .i64 (xs.getD i.toNat zTk).f2) ∧ w.cell? ⟨(ad.add (i.toNat * 4)).block, (ad.add (i.toNat * 4)).off + 3, none⟩ = some (.int .i64 (xs.getD i.toNat zTk).f3) := by
  obtain ⟨ad, c, e, _, hK, hc0⟩ := Kd.C_get h zTk i h0 h1
  have hc : ∀ j u, c[j]? = some u → w.cell? (ad.add (i.toNat * 4 + j)) = some u := hc0
  obtain rfl := kTk_open hK
  exact ⟨ad, e, hc 0 _ rfl, by rw [← add_field _ _ 1 (by omega)]; exact hc 1 _ rfl, by rw [← add_field _ _ 2 (by omega)]; exact hc 2 _ rfl, by rw [← add_field _ _ 3 (by omega)]; exact hc 3 _ rfl⟩

/-- A slice of strings of one's own. -/
def OwnStrs (w : World) (base : Nat) (v : Value) (xs : List ByteArray) : Prop := w.ownsRow base 9 1 v xs.length (encs Value.string xs)
/-- Words with a blank between each two. -/
def Lx.joined (xs : List Lx.Bs) : Lx.Bs := Lib.join xs [32]

set_option maxRecDepth 100000 in
set_option maxHeartbeats 4000000 in
theorem joined_calls (base : Nat) (v : Value) (xs : List ByteArray) (w : World) (hv : OwnStrs w base v xs) (hn : xs.length ≤ 140737488355328) (hlen : (Lx.joined (xs.map (·.data.toList))).length ≤ 140737488355328) :
    Calls Tryd.prog 46 #[v] w fun e w' => e = .returned (strV (Lx.joined (xs.map (·.data.toList)))) ∧ Below w.heap.size w w' := by
  unfold Lx.joined at hlen ⊢
  have hj : Calls Tryd.prog 63 #[v, .string ⟨#[32]⟩] w fun e w' => e = .returned (strV (Lib.join (xs.map (·.data.toList)) [32])) ∧ Below w.heap.size w w' := by
    cases xs with
    | nil =>
      obtain ⟨A, c, rfl⟩ := own_slice hv
      refine (Tryd.strings_Join_none A c ⟨#[32]⟩ w).mono ?_
      rintro e w' ⟨rfl, rfl⟩
      exact ⟨rfl, Below.refl _ _⟩
    | cons x xs =>
      obtain ⟨g, cap, rfl, h1, h2⟩ := hv.form (by simp)
      refine Tryd.strings_Join g 0 cap (x :: xs) ⟨#[32]⟩ w (fun j y hy => ?_) ?_ hn ?_ hlen
      · rw [Nat.zero_add]
        rw [show (⟨g, j, none⟩ : Addr) = (⟨g, 0, none⟩ : Addr).add j by unfold Addr.add; split <;> simp_all]
        exact hv.cells (g := g) rfl j (.string y) (by simp only [encs, List.getElem?_map, hy]; rfl)
      · exact h2
      · exact own_le hv
  have hjh := Lib.hid hj
  clear hj hv hlen
  go_enter Tryd.func46, Tryd.ntmps46
  go_wp2_with fail
  refine hjh.out.mono ?_
  rintro e w' ⟨rfl, hb⟩
  go_wp2
  go_ret
  exact ⟨rfl, hb⟩

/-- The words of tokens, if all are as defined. -/
def Lx.words : List Tk → Option (List Lx.Bs)
  | [] => some []
  | t :: ts => if (Lx.word t).2 = 0 then (Lx.words ts).map fun r => (Lx.word t).1 :: r else none
def Lx.text (ts : List Tk) : Lx.Bs × Int :=
  match Lx.words ts with
  | none => ([], 2)
  | some ws => (Lx.joined ws, 0)
/-- How long the words are, each with a blank. -/
def Lx.long (ts : List Tk) : Nat := (ts.map fun t => (Lx.word t).1.length + 1).sum
theorem words_drop (xs : List Tk) (i : Nat) (h : i < xs.length) : xs.drop i = xs.getD i zTk :: xs.drop (i + 1) := by
  rw [List.drop_eq_getElem_cons h, List.getD_eq_getElem?_getD, List.getElem?_eq_getElem h]
  rfl

theorem joined_len : ∀ ws : List ByteArray, (Lx.joined (ws.map (·.data.toList))).length ≤ (ws.map fun s => s.size + 1).sum := by
  intro ws
  unfold Lx.joined Lib.join
  induction ws with
  | nil => simp [List.intercalate]
  | cons a ws ih =>
    cases ws with
    | nil => simp [List.intercalate]
    | cons b ws =>
      have hi : List.intercalate [32] (List.map (fun x : ByteArray => x.data.toList) (a :: b :: ws)) = a.data.toList ++ [32] ++ List.intercalate [32] (List.map (fun x : ByteArray => x.data.toList) (b :: ws)) := by
        simp [List.intercalate, List.intersperse]
      rw [hi]
      simp only [List.length_append, List.map_cons, List.sum_cons, List.length_cons, List.length_nil] at ih ⊢
      have : a.data.toList.length = a.size := by simp
      omega
theorem bsOf_size (l : Lx.Bs) : (bsOf l).size = l.length := by simp [bsOf, ByteArray.size]
theorem words_next {T : Option (List Lx.Bs)} {ws : List ByteArray} {t : Tk} {wd : Lx.Bs} {l : List Tk} (hw : Lx.word t = (wd, 0)) (hT : T = (Lx.words (t :: l)).map fun r => ws.map (·.data.toList) ++ r) :
    T = (Lx.words l).map fun r => (ws ++ [bsOf wd]).map (·.data.toList) ++ r := by
  rw [hT]
  simp only [Lx.words, hw, if_true]
  cases Lx.words l <;> simp [bsOf]
theorem words_none {T : Option (List Lx.Bs)} {ws : List ByteArray} {t : Tk} {wd : Lx.Bs} {k : Int} {l : List Tk} (hw : Lx.word t = (wd, k)) (hk : k ≠ 0) (hT : T = (Lx.words (t :: l)).map fun r => ws.map (·.data.toList) ++ r) : T = none := by
  rw [hT]
  simp [Lx.words, hw, hk]
theorem word_two {t : Tk} {wd : Lx.Bs} {k : Int} (hw : Lx.word t = (wd, k)) (hk : k ≠ 0) : k = 2 := by
  unfold Lx.word at hw
  split at hw
  · simp at hw; exact hw.2.symm
  · simp at hw; exact absurd hw.2.symm hk
set_option maxRecDepth 100000 in
set_option maxHeartbeats 4000000 in
theorem Text_calls (A : Option Addr) (c : Nat) (xs : List Tk) (w : World) (hL : Laid w) (hr : Kd.C kTk w A xs.length xs) (hc : xs.length ≤ c) (hn : xs.length ≤ 4000) (hs : ∀ t ∈ xs, t.f1.size ≤ 4000) (hlong : Lx.long xs ≤ 4000) :
    Calls Tryd.prog 28 #[.slice A xs.length c] w fun e w' => e = .returned (.tuple #[strV (Lx.text xs).1, .int .i64 (Lx.text xs).2]) ∧ Below w.heap.size w w' := by
  obtain ⟨T, hT⟩ : ∃ T, T = Lx.words xs := ⟨_, rfl⟩
  obtain ⟨r1, r2, hres⟩ : ∃ r1 r2, Lx.text xs = (r1, r2) := ⟨_, _, rfl⟩
  rw [hres]
  unfold Lx.text at hres
  rw [← hT] at hres
  have hTh := Lib.hid hT
  have hresh := Lib.hid hres
  clear hT hres
  have hlh := Lib.hid hlong
  have hsh := Lib.hid hs
  have hrh := Lib.hid hr
  clear hlong hs hr
  go_enter Tryd.func28, Tryd.ntmps28
  go_wp2
  go_loopg [4, 5, 13] xs.length (fun g v4 v5 v13 wr => ∃ (X : Value) (i : Nat) (ws : List ByteArray) (n : Nat), X = v4 ∧ v5 = .int .i64 n ∧ v13 = .int .i64 i ∧ i ≤ xs.length ∧ Hid (g + i = xs.length) ∧ Hid (OwnStrs wr w.heap.size v4 ws) ∧ Hid (ws.length = i) ∧ Hid (Below w.heap.size w wr) ∧ n + Lx.long (xs.drop i) ≤ 4000 ∧ Hid (T = (Lx.words (xs.drop i)).map fun r => ws.map (·.data.toList) ++ r) ∧ Hid ((ws.map fun s => s.size + 1).sum = n))
  case atStart => exact ⟨_, 0, [], 0, rfl, rfl, rfl, Nat.zero_le _, Lib.hid rfl, Lib.hid (own_nil _ _ _ _), Lib.hid rfl, Lib.hid (Below.refl _ _), by simpa using hlh.out, Lib.hid (by rw [hTh.out]; simp), Lib.hid rfl⟩
  case round =>
    obtain ⟨X, i, ws, n, rfl, rfl, rfl, hi, hg, hown, hlen, hB, hnl, hwd, hsum⟩ := hrel
    by_cases hlt : i < xs.length
    · obtain ⟨ad, rfl, d0, d1, d2, d3⟩ := at_Tk (Kd.C_below hrh.out hB.out) i (by omega) (by omega)
      simp only [Int.toNat_natCast] at d0 d1 d2 d3
      have hdr := Lib.hid (words_drop xs i hlt)
      have hmem : xs.getD i zTk ∈ xs := by
        rw [List.getD_eq_getElem?_getD, List.getElem?_eq_getElem hlt]
        exact List.getElem_mem hlt
      have hts := Lib.hid (hsh.out _ hmem)
      clear hmem
      obtain ⟨t, ht⟩ : ∃ t, t = xs.getD i zTk := ⟨_, rfl⟩
      rw [← ht] at d0 d1 d2 d3 hdr hts
      have hth := Lib.hid ht
      clear ht
      have hBx := Lib.hid (hB.out.alloc hB.out.size (.cells #[.int .i64 t.f0, .string t.f1, .int .i64 t.f2, .int .i64 t.f3] 37 (0, 0)))
      have hwc := Word_calls t hts.out _ (hL.below hBx.out)
      obtain ⟨wd, kd, hw⟩ : ∃ wd kd, Lx.word t = (wd, kd) := ⟨_, _, rfl⟩
      rw [hw] at hwc
      simp only [tokCs] at hwc
      have hwh := Lib.hid hw
      have hwch := Lib.hid hwc
      clear hw hwc
      go_wp2_with fail
      refine hwch.out.mono ?_
      rintro e w1 ⟨rfl, hb⟩
      have hB1 := Lib.hid (below_then hBx.out hb (Nat.le_refl _))
      have hown1 := Lib.hid (show OwnStrs w1 w.heap.size X ws from pw_own_below (pw_own_below hown.out ((Below.refl wr.heap.size wr).alloc (Nat.le_refl _) _)) hb)
      clear hb d0 d1 d2 d3
      by_cases hk : kd = 0
      · subst hk
        have hn1 : n + (wd.length + 1) + Lx.long (xs.drop (i + 1)) ≤ 4000 := by
          have := hnl
          rw [hdr.out] at this
          simp only [Lx.long, List.map_cons, List.sum_cons, hwh.out] at this ⊢
          omega
        have hwd2 := Lib.hid (words_next hwh.out (hdr.out ▸ hwd.out))
        have hsum2 := Lib.hid (show ((ws ++ [bsOf wd]).map fun s => s.size + 1).sum = n + (wd.length + 1) by
          rw [List.map_append, List.sum_append, hsum.out]
          rw [List.map_cons, List.map_nil, List.sum_cons, List.sum_nil, bsOf_size, Nat.add_zero])
        have hsz : (bsOf wd).size = wd.length := bsOf_size wd
        rw [show strV wd = .string (bsOf wd) from rfl]
        obtain ⟨bw, hbw⟩ : ∃ bw, bw = bsOf wd := ⟨_, rfl⟩
        rw [← hbw] at hwd2 hsum2 hsz ⊢
        have hbwh := Lib.hid hbw
        clear hbw hnl
        have hwl : ws.length ≤ 4000 := by have := hlen.out; omega
        go_wp2_with (at_builtin; refine print_append_of (w0 := w) (W := w1) Value.string w.heap.size rfl _ _ 56 9 (.string ⟨#[]⟩) 16 rfl (by kernel_rfl) (by kernel_rfl) rfl (by omega) X ws bw rfl rfl rfl hown1.out hB1.out (by have := hB1.out.size; omega) (by omega) ?_; intro v1 w2 hown2 hB2 hgr hat; have hown2h := Lib.hid (show OwnStrs w2 w.heap.size v1 (ws ++ [bw]) from hown2); have hB2h := Lib.hid hB2; clear hown2 hB2 hgr hat)
        go_roundg (xs.length - (i + 1))
        case measure => have := hg.out; omega
        case rel => exact ⟨_, i + 1, ws ++ [bw], n + (wd.length + 1), rfl, by go_num, by go_num, by omega, Lib.hid (by omega), hown2h, Lib.hid (by rw [List.length_append, hlen.out]; rfl), hB2h, hn1, hwd2, hsum2⟩
      · obtain rfl : kd = 2 := word_two hwh.out hk
        have hTn : T = none := words_none hwh.out hk (hdr.out ▸ hwd.out)
        have hr12 : r1 = [] ∧ r2 = 2 := by
          have := hresh.out
          rw [hTn] at this
          simp at this
          exact ⟨this.1.symm ▸ rfl, this.2.symm⟩
        obtain ⟨rfl, rfl⟩ := hr12
        clear hTn
        go_wp2
        go_ret2
        exact ⟨rfl, hB1.out⟩
    · have hTs : T = some (ws.map (·.data.toList)) := by
        rw [hwd.out, List.drop_of_length_le (by omega)]
        simp [Lx.words]
      have hr12 : Lx.joined (ws.map (·.data.toList)) = r1 ∧ (0 : Int) = r2 := by
        have := hresh.out
        rw [hTs] at this
        simpa using this
      obtain ⟨rfl, rfl⟩ := hr12
      clear hTs
      have hjl : (Lx.joined (ws.map (·.data.toList))).length ≤ n := by
        rw [← hsum.out]
        exact joined_len ws
      have hjc := joined_calls w.heap.size _ ws wr hown.out (by have := hlen.out; omega) (by omega)
      have hjch := Lib.hid hjc
      clear hjc
      obtain ⟨b, hb⟩ : ∃ b, b = bsOf (Lx.joined (ws.map (·.data.toList))) := ⟨_, rfl⟩
      have hbs : b.size ≤ 4000 := by
        rw [hb]
        rw [bsOf_size]
        omega
      have hsb : strV (Lx.joined (ws.map (·.data.toList))) = .string b := by rw [hb]; rfl
      rw [hsb] at hjch
      have hsbh := Lib.hid hsb
      clear hsb
      have hbh := Lib.hid hb
      clear hb hjl
      go_wp2_with fail
      refine hjch.out.mono ?_
      rintro e w1 ⟨rfl, hb⟩
      go_wp2
      go_ret2
      exact ⟨by rw [hsbh.out]; rfl, below_then hB.out hb (Nat.le_refl _)⟩
end Go.Proofs.YtkijoeihkajlcaaDoor

set_option linter.unusedVariables false
set_option linter.unusedSimpArgs false
namespace Go.Proofs.YtkijoeihkajlcaaDoor
open Go.RowKit Go.Shelf
open Go.Proofs.YtkijoeihkajlcaaDoorW.PrintWords (Kd OwnRow Reps own_nil own_slice own_weaken pw_own_below blk_new blk_cell)

def Lx.strip (l : Lx.Bs) : Lx.Bs × Int :=
  if (Lx.toks l).2 = 0 then Lx.text ((Lx.toks l).1.map tokS) else ([], (Lx.toks l).2)
theorem toks_len (l : Lx.Bs) : (Lx.toks l).1.length ≤ 4001 := by
  unfold Lx.toks
  split
  · simp
  · rename_i h
    have := readAll_len l
    split
    · rename_i ps hr
      rw [hr] at this
      simp only at this ⊢
      omega
    · simp

set_option maxRecDepth 100000 in
set_option maxHeartbeats 4000000 in
theorem Strip_calls (s : ByteArray) (w : World) (hL : Laid w) (r1 : Lx.Bs) (r2 : Int) (h : Lx.strip s.data.toList = (r1, r2)) (hn : (Lx.toks s.data.toList).1.length ≤ 4000) (hsz : ∀ t ∈ (Lx.toks s.data.toList).1.map tokS, t.f1.size ≤ 4000) (hlong : Lx.long ((Lx.toks s.data.toList).1.map tokS) ≤ 4000) :
    Calls Tryd.prog 30 #[.string s] w fun e w' => e = .returned (.tuple #[strV r1, .int .i64 r2]) ∧ Below w.heap.size w w' := by
  obtain ⟨ps, k, ht⟩ : ∃ ps k, Lx.toks s.data.toList = (ps, k) := ⟨_, _, rfl⟩
  have htc := Tokens_calls s w hL ps k ht
  rw [ht] at hn hsz hlong
  unfold Lx.strip at h
  rw [ht] at h
  have hth := Lib.hid htc
  have hh := Lib.hid h
  have hszh := Lib.hid hsz
  have hlh := Lib.hid hlong
  simp only at hn
  clear htc h hsz hlong ht
  go_enter Tryd.func30, Tryd.ntmps30
  go_wp2_with fail
  refine hth.out.mono ?_
  rintro e w1 ⟨⟨tk, rfl, ho⟩, hb⟩
  have hB1 := Lib.hid hb
  clear hb
  by_cases hk : k = 0
  · subst hk
    have hx : Lx.text (ps.map tokS) = (r1, r2) := by
      have := hh.out
      rwa [if_pos rfl] at this
    have hn2 : (ps.map tokS).length ≤ 4000 := by simpa using hn
    clear hh hth hn
    obtain ⟨ts, hts⟩ : ∃ ts, ts = ps.map tokS := ⟨_, rfl⟩
    rw [← hts] at ho hx hn2 hszh hlh
    clear hts
    obtain ⟨A, c, rfl, hc, hr⟩ := Kd.R_reads ho.R
    have htx := Text_calls A c ts w1 (hL.below hB1.out) hr hc hn2 hszh.out hlh.out
    rw [hx] at htx
    have htxh := Lib.hid htx
    clear htx hx hr ho
    go_wp2_with fail
    refine htxh.out.mono ?_
    rintro e w2 ⟨rfl, hb⟩
    go_wp2
    go_ret2
    exact ⟨rfl, below_then hB1.out hb (Nat.le_refl _)⟩
  · have hx : [] = r1 ∧ k = r2 := by
      have := hh.out
      rw [if_neg hk] at this
      simpa using this
    obtain ⟨rfl, rfl⟩ := hx
    have hkb : (k != 0) = true := by simpa using hk
    go_wp2
    go_ret2
    exact ⟨rfl, hB1.out⟩

def Lx.place (s : ByteArray) (at_ : Int) : Int × Int × Int :=
  if 4000 < s.size then (0, 0, 3) else if at_ < 0 ∨ (s.size : Int) < at_ then (0, 0, 2)
  else (1 + Lib.countByte (s.extract 0 at_.toNat).data.toList 10, at_ - Lib.lastIndexByte (s.extract 0 at_.toNat) 10, 0)
set_option maxRecDepth 100000 in
set_option maxHeartbeats 4000000 in
theorem Place_calls (s : ByteArray) (at_ : Int) (w : World) (a b k : Int) (h : Lx.place s at_ = (a, b, k)) :
    Calls Tryd.prog 16 #[.string s, .int .i64 at_] w fun e w' => e = .returned (.tuple #[.int .i64 a, .int .i64 b, .int .i64 k]) ∧ Below w.heap.size w w' := by
  unfold Lx.place at h
  have hh := Lib.hid h
  clear h
  by_cases c1 : 4000 < s.size
  · rw [if_pos c1] at hh
    have hx : 0 = a ∧ 0 = b ∧ 3 = k := by simpa using hh.out
    obtain ⟨rfl, rfl, rfl⟩ := hx
    go_enter Tryd.func16, Tryd.ntmps16
    go_wp2
    go_ret3
    exact ⟨rfl, Below.refl _ _⟩
  · rw [if_neg c1] at hh
    by_cases c2 : at_ < 0 ∨ (s.size : Int) < at_
    · rw [if_pos c2] at hh
      have hx : 0 = a ∧ 0 = b ∧ 2 = k := by simpa using hh.out
      obtain ⟨rfl, rfl, rfl⟩ := hx
      by_cases c3 : at_ < 0
      · have c3b : decide (at_ < 0) = true := decide_eq_true c3
        go_enter Tryd.func16, Tryd.ntmps16
        go_wp2
        go_ret3
        exact ⟨rfl, Below.refl _ _⟩
      · have c3b : decide (at_ < 0) = false := decide_eq_false c3
        have c4b : decide ((s.size : Int) < at_) = true := decide_eq_true (by omega)
        go_enter Tryd.func16, Tryd.ntmps16
        go_wp2
        go_ret3
        exact ⟨rfl, Below.refl _ _⟩
    · rw [if_neg c2] at hh
      have c3b : decide (at_ < 0) = false := decide_eq_false (by omega)
      have c4b : decide ((s.size : Int) < at_) = false := decide_eq_false (by omega)
      obtain ⟨m, rfl⟩ : ∃ m : Nat, at_ = m := ⟨at_.toNat, by omega⟩
      simp only [Int.toNat_natCast] at hh
      have hm : m ≤ s.size := by omega
      have hx : 1 + (Lib.countByte (s.extract 0 m).data.toList 10 : Int) = a ∧ (m : Int) - Lib.lastIndexByte (s.extract 0 m) 10 = b ∧ 0 = k := by simpa using hh.out
      obtain ⟨rfl, rfl, rfl⟩ := hx
      have hs4 : s.size ≤ 4000 := by omega
      have hes : (s.extract 0 m).size = min m s.size - 0 := by simp
      clear c1 c2 hh
      have hcnt : Lib.countByte (s.extract 0 m).data.toList 10 ≤ 4000 := by
        have := List.count_le_length (a := (10 : UInt8)) (l := (s.extract 0 m).data.toList)
        have h2 : (s.extract 0 m).data.toList.length = min m s.size - 0 := by simp
        unfold Lib.countByte
        omega
      have hlx : -1 ≤ Lib.lastIndexByte (s.extract 0 m) 10 ∧ Lib.lastIndexByte (s.extract 0 m) 10 ≤ 4000 := by
        have h2 : (s.extract 0 m).size = min m s.size - 0 := by simp
        rcases Lib.lastIndexByte_spec (s.extract 0 m) 10 with ⟨h, _⟩ | ⟨i, h1, h, _⟩
        · omega
        · omega
      have hcc := Lib.hid (Tryd.strings_Count_one (s.extract 0 m) 10 w)
      have hlc := Lib.hid (Tryd.strings_LastIndexByte (s.extract 0 m) 10 (by omega) w)
      obtain ⟨cn, hcn⟩ : ∃ cn, cn = Lib.countByte (s.extract 0 m).data.toList 10 := ⟨_, rfl⟩
      obtain ⟨li, hli⟩ : ∃ li, li = Lib.lastIndexByte (s.extract 0 m) 10 := ⟨_, rfl⟩
      rw [← hcn] at hcnt hcc ⊢
      rw [← hli] at hlx hlc ⊢
      clear hcn hli hes
      go_enter Tryd.func16, Tryd.ntmps16
      go_wp2_with fail
      refine hcc.out.mono ?_
      rintro e w1 ⟨rfl, rfl⟩
      go_wp2_with fail
      refine hlc.out.mono ?_
      rintro e w1 ⟨rfl, rfl⟩
      go_wp2
      go_ret3
      exact ⟨rfl, Below.refl _ _⟩
end Go.Proofs.YtkijoeihkajlcaaDoor

set_option linter.unusedVariables false
set_option linter.unusedSimpArgs false
namespace Go.Proofs.YtkijoeihkajlcaaDoor
open Go.RowKit Go.Shelf
open Go.Proofs.YtkijoeihkajlcaaDoorW.PrintWords (Kd OwnRow Reps own_nil own_slice own_weaken pw_own_below blk_new blk_cell)

def knownSrc : Lx.Bs := [118, 97, 114, 32, 120, 32, 58, 61, 32, 126, 53, 59, 32, 35, 32, 102, 105, 118, 101, 10, 120, 46, 48, 32, 60, 34, 97, 32, 98, 34]
def knownOut : Lx.Bs := [118, 97, 114, 32, 120, 32, 58, 61, 32, 126, 53, 32, 59, 32, 120, 32, 46, 32, 48, 32, 60, 32, 34, 97, 32, 98, 34]
theorem known_toks : (Lx.toks knownSrc).2 = 0 ∧ (Lx.toks knownSrc).1.length = 10 := by decide +kernel
theorem known_wrong : Lx.wrongs [97, 32, 48, 48, 55] = (2, 3, 0) := by decide +kernel
theorem known_strip : Lx.strip knownSrc = (knownOut, 0) := by decide +kernel
theorem known_long : Lx.long ((Lx.toks knownSrc).1.map tokS) ≤ 4000 := by decide +kernel
theorem known_sizes : ∀ t ∈ (Lx.toks knownSrc).1.map tokS, t.f1.size ≤ 4000 := by decide +kernel
theorem known_place : Lx.place (bsOf knownSrc) 22 = (2, 3, 0) := by decide +kernel
theorem known_names : Lx.isName [120] = true ∧ Lx.isName [118, 97, 114] = false ∧ Lx.isKey [118, 97, 114] = true ∧ Lx.isKey [120] = false := by decide +kernel

set_option maxRecDepth 100000 in
set_option maxHeartbeats 4000000 in
theorem known_calls (w : World) (hL : Laid w) : Calls Tryd.prog 10 #[] w fun e w' => e = .returned (.bool true) ∧ Below w.heap.size w w' := by
  have hB0 := Lib.hid (Below.refl w.heap.size w)
  obtain ⟨ps, hps, hpl⟩ : ∃ ps, Lx.toks knownSrc = (ps, 0) ∧ ps.length = 10 := ⟨_, Prod.ext rfl known_toks.1, known_toks.2⟩
  have h1 := fun w' hL' => Tokens_calls (⟨#[118, 97, 114, 32, 120, 32, 58, 61, 32, 126, 53, 59, 32, 35, 32, 102, 105, 118, 101, 10, 120, 46, 48, 32, 60, 34, 97, 32, 98, 34]⟩ : ByteArray) w' hL' ps 0 hps
  have h2 := fun w' hL' => Wrong_calls (⟨#[97, 32, 48, 48, 55]⟩ : ByteArray) w' hL' 2 3 0 known_wrong
  have h3 := fun w' hL' => Strip_calls (⟨#[118, 97, 114, 32, 120, 32, 58, 61, 32, 126, 53, 59, 32, 35, 32, 102, 105, 118, 101, 10, 120, 46, 48, 32, 60, 34, 97, 32, 98, 34]⟩ : ByteArray) w' hL' knownOut 0 known_strip (show (Lx.toks knownSrc).1.length ≤ 4000 by rw [hps]; simp only; omega) known_sizes known_long
  have h4 := fun w' => Place_calls (⟨#[118, 97, 114, 32, 120, 32, 58, 61, 32, 126, 53, 59, 32, 35, 32, 102, 105, 118, 101, 10, 120, 46, 48, 32, 60, 34, 97, 32, 98, 34]⟩ : ByteArray) 22 w' 2 3 0 known_place
  rw [show strV knownOut = .string (⟨#[118, 97, 114, 32, 120, 32, 58, 61, 32, 126, 53, 32, 59, 32, 120, 32, 46, 32, 48, 32, 60, 32, 34, 97, 32, 98, 34]⟩ : ByteArray) from rfl] at h3
  have n1 := fun w' hL' => Name_calls (⟨#[120]⟩ : ByteArray) w' hL' (by decide)
  have n2 := fun w' hL' => Name_calls (⟨#[118, 97, 114]⟩ : ByteArray) w' hL' (by decide)
  have n3 := fun w' hL' => Key_calls (⟨#[118, 97, 114]⟩ : ByteArray) w' hL'
  have n4 := fun w' hL' => Key_calls (⟨#[120]⟩ : ByteArray) w' hL'
  rw [known_names.1] at n1
  rw [known_names.2.1] at n2
  rw [known_names.2.2.1] at n3
  rw [known_names.2.2.2] at n4
  have H := Lib.hid (And.intro h1 (And.intro h2 (And.intro h3 (And.intro h4 (And.intro n1 (And.intro n2 (And.intro n3 n4)))))))
  clear h1 h2 h3 h4 n1 n2 n3 n4 hps
  go_enter Tryd.func10, Tryd.ntmps10
  go_wp2_with fail
  refine (H.out.1 _ hL).mono ?_
  rintro e w1 ⟨⟨tk, rfl, ho⟩, hb⟩
  obtain ⟨A, c, rfl⟩ := own_slice ho
  have hl10 : (List.map tokS ps).length = 10 := by simpa using hpl
  rw [hl10]
  clear ho hl10
  have hB1 := Lib.hid hb
  clear hb
  go_wp2_with fail
  refine (H.out.2.1 _ (hL.below hB1.out)).mono ?_
  rintro e w2 ⟨rfl, hb⟩
  have hB2 := Lib.hid (below_then hB1.out hb (Nat.le_refl _))
  clear hb
  go_wp2_with fail
  refine (H.out.2.2.1 _ (hL.below hB2.out)).mono ?_
  rintro e w3 ⟨rfl, hb⟩
  have hB3 := Lib.hid (below_then hB2.out hb (Nat.le_refl _))
  clear hb
  go_wp2_with fail
  refine (H.out.2.2.2.1 _).mono ?_
  rintro e w4 ⟨rfl, hb⟩
  have hB4 := Lib.hid (below_then hB3.out hb (Nat.le_refl _))
  clear hb
  go_wp2_with fail
  refine (H.out.2.2.2.2.1 _ (hL.below hB4.out)).mono ?_
  rintro e w5 ⟨rfl, hb⟩
  have hB5 := Lib.hid (below_then hB4.out hb (Nat.le_refl _))
  clear hb
  go_wp2_with fail
  refine (H.out.2.2.2.2.2.1 _ (hL.below hB5.out)).mono ?_
  rintro e w6 ⟨rfl, hb⟩
  have hB6 := Lib.hid (below_then hB5.out hb (Nat.le_refl _))
  clear hb
  go_wp2_with fail
  refine (H.out.2.2.2.2.2.2.1 _ (hL.below hB6.out)).mono ?_
  rintro e w7 ⟨rfl, hb⟩
  have hB7 := Lib.hid (below_then hB6.out hb (Nat.le_refl _))
  clear hb
  go_wp2_with fail
  refine (H.out.2.2.2.2.2.2.2 _ (hL.below hB7.out)).mono ?_
  rintro e w8 ⟨rfl, hb⟩
  have hB8 := Lib.hid (below_then hB7.out hb (Nat.le_refl _))
  clear hb
  go_wp2
  go_ret
  exact ⟨rfl, hB8.out⟩
end Go.Proofs.YtkijoeihkajlcaaDoor
