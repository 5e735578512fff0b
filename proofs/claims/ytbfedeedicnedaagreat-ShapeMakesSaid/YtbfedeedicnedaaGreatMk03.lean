/-
  Texts of this claim: RAll5, RAll7, RAll10, RAll11, ShBE, ShBI, ShLg, ShAH.
-/
import Derived.Test.YtbfedeedicnedaaGreatMk02
import Derived.Test.YtbfedeedicnedaaGreatWb01
import Derived.Test.YtbfedeedicnedaaGreatWb02
import Derived.Test.YtbfedeedicnedaaGreatWb03
import Derived.Test.YtbfedeedicnedaaGreatWb04
import Derived.Test.YtbfedeedicnedaaGreatWb05
import Derived.Test.YtbfedeedicnedaaGreatWb06
import Derived.Test.YtbfedeedicnedaaGreatWb07
import Derived.Test.YtbfedeedicnedaaGreatWb08
import Derived.Test.YtbfedeedicnedaaGreatWb09
import Derived.Test.YtbfedeedicnedaaGreatWb10
import Derived.Test.YtbfedeedicnedaaGreatWb11
import Derived.Test.YtbfedeedicnedaaGreatWb12
import Derived.Test.YtbfedeedicnedaaGreatWb13
import Derived.Test.YtbfedeedicnedaaGreatWb14
import Derived.Test.YtbfedeedicnedaaGreatWb15
import Derived.Test.YtbfedeedicnedaaGreatWb16
import Derived.Test.YtbfedeedicnedaaGreatWb17
import Derived.Test.YtbfedeedicnedaaGreatWb18
import Derived.Test.YtbfedeedicnedaaGreatWb19
import Derived.Test.YtbfedeedicnedaaGreatWb20
import Derived.Test.YtbfedeedicnedaaGreatWb21
import Derived.Test.YtbfedeedicnedaaGreatWb22
import Derived.Test.YtbfedeedicnedaaGreatWb23
import Derived.Test.YtbfedeedicnedaaGreatWb24
import Derived.Test.YtbfedeedicnedaaGreatWb25
import Derived.Test.YtbfedeedicnedaaGreatWb26
import Derived.Test.YtbfedeedicnedaaGreatWb27
import Derived.Test.YtbfedeedicnedaaGreatWb28
import Derived.Test.YtbfedeedicnedaaGreatWb29
import Derived.Test.YtbfedeedicnedaaGreatWb30
import Derived.Test.YtbfedeedicnedaaGreatWb31
import Derived.Test.YtbfedeedicnedaaGreatWb32
import Derived.Test.YtbfedeedicnedaaGreatWb33
import Derived.Test.YtbfedeedicnedaaGreatWb34
import Derived.Test.YtbfedeedicnedaaGreatWb35
import Derived.Test.YtbfedeedicnedaaGreatWb36
import Derived.Test.YtbfedeedicnedaaGreatWb37
import Derived.Test.YtbfedeedicnedaaGreatWb38
import Derived.Test.YtbfedeedicnedaaGreatWb39
import Derived.Test.YtbfedeedicnedaaGreatWb40
import Derived.Test.YtbfedeedicnedaaGreatWb41
import Derived.Test.YtbfedeedicnedaaGreatWb42
import Derived.Outline
import Derived.Deep.RegionLaw
import Derived.StillTailTactics
import Derived.Deep.RegionHeld3
import Derived.Test.YtbfedeedicnedaaGreatProg
import Derived.WalkKit
import Derived.KernelRfl
import Derived.WalkLawsBesides
import Derived.WalkSpells
import Derived.Deep.QuietTactic
import Derived.BigQuiet
import Derived.Lib.Hide
import Derived.Deep.LoopGhost
import Derived.Below
import Derived.Deep.Draws
import Derived.Deep.AppendLies
import Derived.Maps.AppendAt
import Derived.OwnWalk
import Derived.Laws.BytesArg
import Derived.Laws.MakeOwn
import Derived.Laws.OwnMore
import Derived.Deep.OwnRows
import Derived.Tactics
import Derived.Lib.ConvBytes
import Derived.Laws.Slices
import Derived.RowKit3
import Derived.WideLaws
import Derived.Deep.DeepCutAuto
import Derived.Deep.CutBlock
import Derived.Laws.Rows
import Derived.Lib.AppendStr
import Derived.ArgAppend
import Derived.Laws.IdiomCopy
import Derived.OrdersHeld
import Derived.Laws.BitsLemmas
import Derived.RowKit
import Derived.Laws.StructEq
import Derived.Laws.CopyOwn
import Derived.Sort.OwnSortedInts
import Derived.Shelf.Sort.Plain
import Derived.Shelf.Bits.Mul64
import Derived.Shelf.Slices.Turned
import Derived.Ground.Names2Prog
import Derived.Shelf.Slices.Clone
import Derived.Shelf.Slices.CompactI
import Derived.Shelf.Slices.SearchI
import Derived.Shelf.Slices.Delete
import Derived.Shelf.Slices.Cells
import Derived.Shelf.Slices.In.SortNone
import Derived.Shelf.Slices.Empties
import Derived.Laws.EntriesVeiled

section
namespace Go.Proofs.YtbfedeedicnedaaGreat.PAll
open Go.RowKit Go.Proofs.YtbfedeedicnedaaGreatW.PrintWords Go.Proofs.YtbfedeedicnedaaGreatW.PrintLast Go.Proofs.YtbfedeedicnedaaGreatW.PrintMore
attribute [local go_sem] max2_int min2_int max_two min_two max_three min_three max_four min_four
set_option linter.unusedVariables false
set_option linter.unusedSimpArgs false
end Go.Proofs.YtbfedeedicnedaaGreat.PAll
end

section
namespace Go.Proofs.YtbfedeedicnedaaGreat.PAll
open Go.RowKit Go.Proofs.YtbfedeedicnedaaGreatW.PrintWords Go.Proofs.YtbfedeedicnedaaGreatW.PrintLast Go.Proofs.YtbfedeedicnedaaGreatW.PrintMore
attribute [local go_sem] max2_int min2_int max_two min_two max_three min_three max_four min_four
set_option linter.unusedVariables false
set_option linter.unusedSimpArgs false
end Go.Proofs.YtbfedeedicnedaaGreat.PAll
end

section
namespace Go.Proofs.YtbfedeedicnedaaGreat.PAll
open Go.RowKit Go.Proofs.YtbfedeedicnedaaGreatW.PrintWords Go.Proofs.YtbfedeedicnedaaGreatW.PrintLast Go.Proofs.YtbfedeedicnedaaGreatW.PrintMore
attribute [local go_sem] max2_int min2_int max_two min_two max_three min_three max_four min_four
set_option linter.unusedVariables false
set_option linter.unusedSimpArgs false
end Go.Proofs.YtbfedeedicnedaaGreat.PAll
end

section
namespace Go.Proofs.YtbfedeedicnedaaGreat.PAll
open Go.RowKit Go.Proofs.YtbfedeedicnedaaGreatW.PrintWords Go.Proofs.YtbfedeedicnedaaGreatW.PrintLast Go.Proofs.YtbfedeedicnedaaGreatW.PrintMore
attribute [local go_sem] max2_int min2_int max_two min_two max_three min_three max_four min_four
set_option linter.unusedVariables false
set_option linter.unusedSimpArgs false
def swardref12_Formed.f (a0 : Int) : Option (Bool) := if a0 ≥ 1 then (some (decide (a0 ≤ 5))) else (some false)
set_option maxHeartbeats 8000000 in
set_option maxRecDepth 100000 in
theorem swardref12_Formed.calls (a0 : Int) (r : Bool) (w : World) (h : swardref12_Formed.f a0 = some r) :
    Calls Tryz.prog 35 #[.int .i64 a0] w fun e w' => e = .returned (.bool r) ∧ Drawn0 w w' := by
  have H : (if a0 ≥ 1 then (some (decide (a0 ≤ 5))) else (some false)) = some r := h
  clear h
  by_cases c2 : a0 ≥ 1
  · rw [if_pos c2] at H
    have c2b0 : decide (1 ≤ a0) = true := decide_eq_true c2
    clear c2
    obtain rfl := Option.some.inj H
    go_enter Tryz.func35, Tryz.ntmps35
    go_wp2
    go_ret
    exact ⟨by first | rfl | (simp; done) | (simp [*]; done), by repeat (first | exact Drawn0.refl _ | apply Drawn0.step)⟩
  · rw [if_neg c2] at H
    have c2b0 : decide (1 ≤ a0) = false := decide_eq_false c2
    clear c2
    obtain rfl := Option.some.inj H
    go_enter Tryz.func35, Tryz.ntmps35
    go_wp2
    go_ret
    exact ⟨by first | rfl | (simp; done) | (simp [*]; done), by repeat (first | exact Drawn0.refl _ | apply Drawn0.step)⟩
mutual
def swardref12_Made.j0 : Nat → Int → List Int → Bool → Option (Int)
  | 0, _, _, _ => none
  | k + 1, x1, x2, x15 => if x15 = true then (some 3) else ((swardref12_Formed.f x1).bind fun t535 => (if t535 = true then (swardref12_Made.l0 k x2 0) else (some 2)))
def swardref12_Made.l0 : Nat → List Int → Int → Option (Int)
  | 0, _, _ => none
  | k + 1, x2, x7 => if x7 < (x2.length : Int) then (if 0 ≤ x7 then ((swardref12_in.f (rd x2 x7) 0 1023).bind fun t537 => (if t537 = true then (swardref12_Made.l0 k x2 (wrap64 (x7 + 1))) else (some 2))) else (none)) else (some 0)
end
def swardref12_Made.f (k : Nat) (l0 : List (S95)) (a1 : Int) (l2 : List Int) : Option (Int) := if (l0.length : Int) > 3000 then (swardref12_Made.j0 k a1 l2 true) else (swardref12_Made.j0 k a1 l2 (decide ((l2.length : Int) > 2000)))
theorem swardref12_Made.mono_l : ∀ k, (∀ y0 y1 y2, LeO (swardref12_Made.j0 k y0 y1 y2) (swardref12_Made.j0 (k + 1) y0 y1 y2)) ∧ (∀ y0 y1, LeO (swardref12_Made.l0 k y0 y1) (swardref12_Made.l0 (k + 1) y0 y1))
  | 0 => ⟨fun _ _ _ r h => by simp [swardref12_Made.j0] at h, fun _ _ r h => by simp [swardref12_Made.l0] at h⟩
  | k + 1 => by
    obtain ⟨ih0, ih1⟩ := swardref12_Made.mono_l k
    refine ⟨?_, ?_⟩
    · intro y0 y1 y2
      unfold swardref12_Made.j0
      repeat' first
      | (with_reducible exact ih0 _ _ _)
      | (with_reducible exact ih1 _ _)
      | (with_reducible exact LeO.refl _)
      | (with_reducible exact LeO.none _)
      | (with_reducible refine LeO.ite ?_ ?_)
      | (with_reducible refine LeO.bind ?_ (fun _ => ?_))
      | exact ih0 _ _ _
      | exact ih1 _ _
      | exact LeO.none _
      | refine LeO.ite ?_ ?_
      | refine LeO.bind ?_ (fun _ => ?_)
    · intro y0 y1
      unfold swardref12_Made.l0
      repeat' first
      | (with_reducible exact ih0 _ _ _)
      | (with_reducible exact ih1 _ _)
      | (with_reducible exact LeO.refl _)
      | (with_reducible exact LeO.none _)
      | (with_reducible refine LeO.ite ?_ ?_)
      | (with_reducible refine LeO.bind ?_ (fun _ => ?_))
      | exact ih0 _ _ _
      | exact ih1 _ _
      | exact LeO.none _
      | refine LeO.ite ?_ ?_
      | refine LeO.bind ?_ (fun _ => ?_)
theorem swardref12_Made.mono : ∀ a0 a1 a2 k, LeO (swardref12_Made.f k a0 a1 a2) (swardref12_Made.f (k + 1) a0 a1 a2) := by
  intro a0 a1 a2 k
  obtain ⟨ih0, ih1⟩ := swardref12_Made.mono_l k
  unfold swardref12_Made.f
  repeat' first
      | (with_reducible exact ih0 _ _ _)
      | (with_reducible exact ih1 _ _)
      | (with_reducible exact LeO.refl _)
      | (with_reducible exact LeO.none _)
      | (with_reducible refine LeO.ite ?_ ?_)
      | (with_reducible refine LeO.bind ?_ (fun _ => ?_))
      | exact ih0 _ _ _
      | exact ih1 _ _
      | exact LeO.none _
      | refine LeO.ite ?_ ?_
      | refine LeO.bind ?_ (fun _ => ?_)
set_option maxHeartbeats 8000000 in
set_option maxRecDepth 100000 in
theorem swardref12_Made.calls (k : Nat) (A0 : Option Addr) (c0 : Nat) (l0 : List (S95)) (a1 : Int) (A2 : Option Addr) (c2 : Nat) (l2 : List Int) (r : Int) (w : World) (hr0 : Kd.C k95 w A0 l0.length l0) (hc0 : l0.length ≤ c0) (hr2 : Kd.C (Kd.int .i64) w A2 l2.length l2) (hc2 : l2.length ≤ c2) (h : swardref12_Made.f k l0 a1 l2 = some r) :
    Calls Tryz.prog 30 #[.slice A0 l0.length c0, .int .i64 a1, .slice A2 l2.length c2] w fun e w' => e = .returned (.int .i64 r) ∧ Drawn0 w w' := by
  have HR0 := Aside0.mk hr0
  have HC0 := Aside0.mk hc0
  clear hr0 hc0
  have HR2 := Aside0.mk hr2
  have HC2 := Aside0.mk hc2
  clear hr2 hc2
  have H : (if (l0.length : Int) > 3000 then (swardref12_Made.j0 k a1 l2 true) else (swardref12_Made.j0 k a1 l2 (decide ((l2.length : Int) > 2000)))) = some r := h
  clear h
  have HC4 := Aside0.mk H
  clear H
  go_enter Tryz.func30, Tryz.ntmps30
  go_upto_region 1 with (fail)
  go_cut [15] (fun v15 wc => ∃ (kq : Nat) (x15_3 : Bool), v15 = .bool x15_3 ∧ Aside0 (swardref12_Made.j0 kq a1 l2 x15_3 = some r) ∧ Aside0 (kq ≤ k) ∧ Drawn0 w wc)
  case first =>
    have H := HC4.out
    clear HC4
    by_cases c5 : (l0.length : Int) > 3000
    · rw [if_pos c5] at H
      have c5b0 : decide (3000 < (l0.length : Int)) = true := decide_eq_true c5
      have c5b1 : decide (3000 < l0.length) = true := decide_eq_true (by omega)
      clear c5
      (first | rw [c5b0] | (simp only [i64_w, i32_w]; rw [c5b0]) | skip)
      have H' := Aside0.mk H
      clear H
      go_wp2
      go_meet
      case rel => exact ⟨_, (true), (by first | rfl | (simp; done) | (simp [*]; done)), H', ⟨by first | omega | exact Nat.le_refl _⟩, by repeat (first | exact Drawn0.refl _ | apply Drawn0.step)⟩
    · rw [if_neg c5] at H
      have c5b0 : decide (3000 < (l0.length : Int)) = false := decide_eq_false c5
      have c5b1 : decide (3000 < l0.length) = false := decide_eq_false (by omega)
      clear c5
      (first | rw [c5b0] | (simp only [i64_w, i32_w]; rw [c5b0]) | skip)
      have H' := Aside0.mk H
      clear H
      go_wp2
      go_meet
      case rel => exact ⟨_, (decide ((l2.length : Int) > 2000)), (by first | rfl | (simp; done) | (simp [*]; done)), H', ⟨by first | omega | exact Nat.le_refl _⟩, by repeat (first | exact Drawn0.refl _ | apply Drawn0.step)⟩
  case rest =>
    clear HC4
    try clear c2
    try clear p2
    try clear c3
    try clear c5
    try clear c5b0
    try clear c5b1
    obtain ⟨kq, x15_3, rfl, HA, HJ3, ⟨mc3, rfl⟩⟩ := hcut
    cases kq with
    | zero => exact absurd HA.out (by simp [swardref12_Made.j0])
    | succ kj3 =>
      have H := HA.out
      clear HA
      simp only [swardref12_Made.j0] at H
      by_cases c6 : x15_3 = true
      · subst c6
        have H1 : (some 3) = some r := by rw [if_pos rfl] at H; exact H
        clear H
        have H := H1
        clear H1
        obtain rfl := Option.some.inj H
        go_wp2
        go_ret
        exact ⟨by first | rfl | (simp; done) | (simp [*]; done), by repeat (first | exact Drawn0.refl _ | apply Drawn0.step)⟩
      · replace c6 := Bool.eq_false_iff.mpr c6
        subst c6
        have H1 : ((swardref12_Formed.f a1).bind fun t535 => (if t535 = true then (swardref12_Made.l0 kj3 l2 0) else (some 2))) = some r := by rw [if_neg (show ¬ (false = true) by decide)] at H; exact H
        clear H
        have H := H1
        clear H1
        replace H := Option.bind_eq_some_iff.mp H
        obtain ⟨t535, A70, H⟩ := H
        replace H : (if t535 = true then (swardref12_Made.l0 kj3 l2 0) else (some 2)) = some r := H
        have A7 := Aside0.mk A70
        clear A70
        by_cases c8 : t535 = true
        · subst c8
          have H1 : (swardref12_Made.l0 kj3 l2 0) = some r := by rw [if_pos rfl] at H; exact H
          clear H
          have H := H1
          clear H1
          have H' := Aside0.mk H
          clear H
          go_wp2_with (first | ((with_reducible refine gate_callee (f := 35) rfl ?_); refine goesL_ (some 17) rfl rfl Tryz.func35 (by kernel_rfl) rfl #[.int .i64 a1] rfl (by (try simp only [List.map_toArray, List.map_cons, List.map_nil]); first | done | rfl | (simp only [List.length_drop, List.length_take]; rfl)) ?_; (with_reducible refine (swardref12_Formed.calls a1 true _ A7.out).mono ?_); rintro e w' ⟨rfl, ⟨nd, rfl⟩⟩; refine ⟨_, rfl, ?_⟩))
          go_loopg [7] kj3 (fun kq v7 w' => ∃ (x7_2 : Int), v7 = .int .i64 x7_2 ∧ Aside0 (swardref12_Made.l0 kq l2 x7_2 = some r) ∧ Aside0 (kq ≤ kj3) ∧ Drawn0 w w')
          case atStart => exact ⟨(0), (by first | rfl | (simp; done) | (simp [*]; done)), H', ⟨Nat.le_refl _⟩, by repeat (first | exact Drawn0.refl _ | apply Drawn0.step)⟩
          case round =>
            clear H'
            try clear c2
            try clear p2
            try clear c3
            try clear c5
            try clear c5b0
            try clear c5b1
            try clear c6
            try clear c8
            try clear p2
            obtain ⟨x7_2, rfl, HA, HK2, ⟨m2, rfl⟩⟩ := hrel
            cases gk with
            | zero => exact absurd HA.out (by simp [swardref12_Made.l0])
            | succ k2 =>
              have H := HA.out
              clear HA
              simp only [swardref12_Made.l0] at H
              by_cases c9 : x7_2 < (l2.length : Int)
              · rw [if_pos c9] at H
                have c9b0 : decide (x7_2 < (l2.length : Int)) = true := decide_eq_true c9
                clear c9
                by_cases c10 : 0 ≤ x7_2
                · rw [if_pos c10] at H
                  have c10b0 : decide (0 ≤ x7_2) = true := decide_eq_true c10
                  clear c10
                  replace H := Option.bind_eq_some_iff.mp H
                  obtain ⟨t537, A110, H⟩ := H
                  replace H : (if t537 = true then (swardref12_Made.l0 k2 l2 (wrap64 (x7_2 + 1))) else (some 2)) = some r := H
                  have A11 := Aside0.mk A110
                  clear A110
                  by_cases c12 : t537 = true
                  · subst c12
                    have H1 : (swardref12_Made.l0 k2 l2 (wrap64 (x7_2 + 1))) = some r := by rw [if_pos rfl] at H; exact H
                    clear H
                    have H := H1
                    clear H1
                    have H' := Aside0.mk H
                    clear H
                    have p536 : 0 ≤ (x7_2 : Int) := of_decide_eq_true (by first | (with_reducible assumption) | assumption)
                    have q536 : x7_2 < (l2.length : Int) := of_decide_eq_true (by first | (with_reducible assumption) | assumption)
                    obtain ⟨ad536, e536, hx536_0⟩ := Kd.at_int HR2.out x7_2 p536 q536
                    cases e536
                    replace p536 := eq_true p536
                    replace q536 := eq_true q536
                    go_wp2_with (first | ((with_reducible refine gate_callee (f := 63) rfl ?_); refine goesL_ (some 29) rfl rfl Tryz.func63 (by kernel_rfl) rfl #[.int .i64 (rd l2 x7_2), .int .i64 0, .int .i64 1023] rfl (by (try simp only [List.map_toArray, List.map_cons, List.map_nil]); first | done | rfl | (simp only [List.length_drop, List.length_take]; rfl)) ?_; (with_reducible refine (swardref12_in.calls (rd l2 x7_2) 0 1023 true _ A11.out).mono ?_); rintro e w' ⟨rfl, ⟨nd, rfl⟩⟩; refine ⟨_, rfl, ?_⟩))
                    go_roundg k2
                    case measure => have := HJ3.out; have := HK2.out; omega
                    case rel => exact ⟨(wrap64 (x7_2 + 1)), (by first | rfl | (simp; done) | (simp [*]; done)), H', ⟨by have := HJ3.out; have := HK2.out; omega⟩, by repeat (first | exact Drawn0.refl _ | apply Drawn0.step)⟩
                  · replace c12 := Bool.eq_false_iff.mpr c12
                    subst c12
                    have H1 : (some 2) = some r := by rw [if_neg (show ¬ (false = true) by decide)] at H; exact H
                    clear H
                    have H := H1
                    clear H1
                    obtain rfl := Option.some.inj H
                    have p536 : 0 ≤ (x7_2 : Int) := of_decide_eq_true (by first | (with_reducible assumption) | assumption)
                    have q536 : x7_2 < (l2.length : Int) := of_decide_eq_true (by first | (with_reducible assumption) | assumption)
                    obtain ⟨ad536, e536, hx536_0⟩ := Kd.at_int HR2.out x7_2 p536 q536
                    cases e536
                    replace p536 := eq_true p536
                    replace q536 := eq_true q536
                    go_wp2_with (first | ((with_reducible refine gate_callee (f := 63) rfl ?_); refine goesL_ (some 29) rfl rfl Tryz.func63 (by kernel_rfl) rfl #[.int .i64 (rd l2 x7_2), .int .i64 0, .int .i64 1023] rfl (by (try simp only [List.map_toArray, List.map_cons, List.map_nil]); first | done | rfl | (simp only [List.length_drop, List.length_take]; rfl)) ?_; (with_reducible refine (swardref12_in.calls (rd l2 x7_2) 0 1023 false _ A11.out).mono ?_); rintro e w' ⟨rfl, ⟨nd, rfl⟩⟩; refine ⟨_, rfl, ?_⟩))
                    go_ret
                    exact ⟨by first | rfl | (simp; done) | (simp [*]; done), by repeat (first | exact Drawn0.refl _ | apply Drawn0.step)⟩
                · rw [if_neg c10] at H
                  exact absurd H (by simp)
              · rw [if_neg c9] at H
                have c9b0 : decide (x7_2 < (l2.length : Int)) = false := decide_eq_false c9
                clear c9
                obtain rfl := Option.some.inj H
                go_wp2
                go_ret
                exact ⟨by first | rfl | (simp; done) | (simp [*]; done), by repeat (first | exact Drawn0.refl _ | apply Drawn0.step)⟩
        · replace c8 := Bool.eq_false_iff.mpr c8
          subst c8
          have H1 : (some 2) = some r := by rw [if_neg (show ¬ (false = true) by decide)] at H; exact H
          clear H
          have H := H1
          clear H1
          obtain rfl := Option.some.inj H
          go_wp2_with (first | ((with_reducible refine gate_callee (f := 35) rfl ?_); refine goesL_ (some 17) rfl rfl Tryz.func35 (by kernel_rfl) rfl #[.int .i64 a1] rfl (by (try simp only [List.map_toArray, List.map_cons, List.map_nil]); first | done | rfl | (simp only [List.length_drop, List.length_take]; rfl)) ?_; (with_reducible refine (swardref12_Formed.calls a1 false _ A7.out).mono ?_); rintro e w' ⟨rfl, ⟨nd, rfl⟩⟩; refine ⟨_, rfl, ?_⟩))
          go_ret
          exact ⟨by first | rfl | (simp; done) | (simp [*]; done), by repeat (first | exact Drawn0.refl _ | apply Drawn0.step)⟩
end Go.Proofs.YtbfedeedicnedaaGreat.PAll
end

section
set_option linter.unusedVariables false
set_option linter.unusedSimpArgs false
namespace Go.Proofs.YtbfedeedicnedaaGreat.PAll
open Go.RowKit
open Go.Proofs.YtbfedeedicnedaaGreatW.PrintWords
theorem ev_Made_l (l : List Int) (hl : l.length ≤ 1000000) : ∀ (n i : Nat), i ≤ l.length → l.length - i = n → Ev (fun k => swardref12_Made.l0 k l i) (if ((l.drop i).any fun x => !(Sh.el x)) = true then 2 else 0) := by
  intro n
  induction n with
  | zero =>
    intro i hi hn
    have h1 : ¬ ((i : Int) < (l.length : Int)) := by omega
    rw [List.drop_of_length_le (by omega)]
    refine Ev.succ ?_
    simp only [swardref12_Made.l0, h1, if_false]
    exact Ev.now _
  | succ n ih =>
    intro i hi hn
    have h1 : (i : Int) < (l.length : Int) := by omega
    have h2 : (0 : Int) ≤ (i : Int) := by omega
    have hw := wrap_succ i (by omega)
    rw [drop_gi l i (by omega), List.any_cons]
    refine Ev.succ ?_
    simp only [swardref12_Made.l0, h1, h2, if_true, rd_gi, hw, in_el, Option.bind_some]
    cases Sh.el (Sh.gi l i)
    · simp only [Bool.false_eq_true, if_false, Bool.not_false, Bool.true_or, if_true]
      exact Ev.now _
    · simp only [if_true, Bool.not_true, Bool.false_or]
      exact ih (i + 1) (by omega) (by omega)
def madeE (H : Sh.Hp) (f : Int) (l : List Int) : Int := if 3000 < H.length ∨ 2000 < l.length then 3 else if 1 ≤ f ∧ f ≤ 5 then (if (l.any fun x => !(Sh.el x)) = true then 2 else 0) else 2
theorem ev_Made (H : Sh.Hp) (f : Int) (l : List Int) (hl : l.length ≤ 1000000) : Ev (fun k => swardref12_Made.f k (sn H) f l) (madeE H f l) := by
  unfold swardref12_Made.f madeE
  rw [sn_len]
  have hj : Ev (fun k => swardref12_Made.j0 k f l true) 3 := by
    refine Ev.succ ?_
    simp only [swardref12_Made.j0, if_true]
    exact Ev.now _
  by_cases h1 : 3000 < H.length
  · have h2 : (H.length : Int) > 3000 := by omega
    simp only [h2, if_true]
    rw [if_pos (Or.inl h1)]
    exact hj
  · have h2 : ¬ ((H.length : Int) > 3000) := by omega
    simp only [h2, if_false]
    by_cases h3 : 2000 < l.length
    · rw [decide_eq_true (show (l.length : Int) > 2000 by omega), if_pos (Or.inr h3)]
      exact hj
    · rw [decide_eq_false (show ¬ (l.length : Int) > 2000 by omega), if_neg (by omega)]
      refine Ev.succ ?_
      simp only [swardref12_Made.j0, Bool.false_eq_true, if_false]
      unfold swardref12_Formed.f
      by_cases h4 : f ≥ 1
      · by_cases h5 : f ≤ 5
        · rw [if_pos h4, decide_eq_true h5, if_pos ⟨h4, h5⟩]
          simp only [Option.bind_some, if_true]
          have := ev_Made_l l hl _ 0 (Nat.zero_le _) rfl
          rw [List.drop_zero] at this
          exact this
        · rw [if_pos h4, decide_eq_false h5, if_neg (fun h => h5 h.2)]
          simp only [Option.bind_some, Bool.false_eq_true, if_false]
          exact Ev.now _
      · rw [if_neg h4, if_neg (fun h => h4 h.1)]
        simp only [Option.bind_some, Bool.false_eq_true, if_false]
        exact Ev.now _
end Go.Proofs.YtbfedeedicnedaaGreat.PAll
end

section
set_option linter.unusedVariables false
set_option linter.unusedSimpArgs false
namespace Go.Proofs.YtbfedeedicnedaaGreat
open Go.RowKit
open Go.Proofs.YtbfedeedicnedaaGreatW.PrintWords
set_option maxRecDepth 100000 in
theorem nothing_calls (A : Option Addr) (c : Nat) (w : World) :
    Calls Tryz.prog 31 #[.slice A 0 c, shV 0 0 0] w fun e w' => e = .returned (.bool true) ∧ Below w.heap.size w w' := by
  have hB := Lib.hid (shape_box w 0 0 0)
  go_enter Tryz.func31, Tryz.ntmps31
  go_wp2
  go_ret
  exact ⟨rfl, hB.out⟩
theorem Made_calls (H : Sh.Hp) (f : Int) (l : List Int) (A : Option Addr) (c : Nat) (A1 : Option Addr) (c1 : Nat) (w : World) (hC : Nodes w A H) (hc : H.length ≤ c) (hL : Kd.C kI w A1 l.length l) (hc1 : l.length ≤ c1) (hl : l.length ≤ 1000000) :
    Calls Tryz.prog 30 #[.slice A H.length c, .int .i64 f, .slice A1 l.length c1] w fun e w' => e = .returned (.int .i64 (PAll.madeE H f l)) ∧ Drawn0 w w' := by
  obtain ⟨k, hk⟩ := (PAll.ev_Made H f l hl).rounds
  have hC' : Kd.C PAll.k95 w A (sn H).length (sn H) := by rw [sn_len]; exact hC
  have := PAll.swardref12_Made.calls k A c (sn H) f A1 c1 l _ w hC' (by rw [sn_len]; exact hc) hL hc1 hk
  rw [sn_len] at this
  exact this
set_option maxRecDepth 100000 in
set_option maxHeartbeats 4000000 in
theorem Sorted_calls (l : List Int) (A : Option Addr) (c : Nat) (w : World) (hC : Kd.C kI w A l.length l) (hl : l.length ≤ 90000) :
    Calls Tryz.prog 33 #[.slice A l.length c] w fun e w' => GotV w' e (Sh.sortF l) ∧ Below w.heap.size w w' := by
  obtain ⟨n, hn⟩ : ∃ n, n = l.length := ⟨_, rfl⟩
  have hcell := Lib.hid (fun k (hk : k < n) W (hW : Below w.heap.size w W) => (by
    obtain ⟨ad, e, h⟩ := at_int (Kd.C_below hC hW) (k : Int) (by omega) (by omega)
    rw [Int.toNat_natCast] at h
    exact ⟨ad, e, h⟩ : ∃ ad, A = some ad ∧ W.cell? (ad.add k) = some (.int .i64 (Sh.gi l k))))
  rw [← hn] at hl ⊢
  have hnh := Lib.hid hn
  have hstep := Lib.hid (fun k (hk : k < n) => (by
    unfold Sh.sortF
    rw [List.take_succ_eq_append_getElem (by omega), List.foldl_append]
    have e : Sh.gi l k = l[k] := by unfold Sh.gi; rw [List.getD_eq_getElem?_getD, List.getElem?_eq_getElem (by omega)]; rfl
    rw [e]
    rfl : Sh.sortF (l.take (k + 1)) = Sh.withF (Sh.sortF (l.take k)) (Sh.gi l k)))
  clear hC hn
  go_enter Tryz.func33, Tryz.ntmps33
  go_wp2
  go_loopg [3, 4] n (fun g v3 v4 wr => ∃ (k : Nat) (out : List Int) (A3 : Option Addr) (c3 : Nat), v4 = .int .i64 k ∧ k ≤ n ∧ Hid (g + k = n) ∧ v3 = .slice A3 out.length c3 ∧ Hid (out.length ≤ c3) ∧ Hid (Kd.C kI wr A3 out.length out) ∧ out.length ≤ k ∧ Hid (out = Sh.sortF (l.take k)) ∧ Hid (Below w.heap.size w wr))
  case atStart => exact ⟨0, [], none, 0, rfl, Nat.zero_le _, Lib.hid rfl, rfl, Lib.hid (Nat.le_refl _), Lib.hid (C_nil _), Nat.le_refl _, Lib.hid rfl, Lib.hid (Below.refl _ _)⟩
  case round =>
    obtain ⟨k, out, A3, c3, rfl, hk, hg, rfl, hc3, hC3, hol, hout, hB⟩ := hrel
    by_cases hlt : k < n
    · obtain ⟨ad, rfl, e0⟩ := hcell.out k hlt wr hB.out
      have hst := Lib.hid ((hstep.out k hlt).trans (by rw [← hout.out]))
      obtain ⟨x, hx⟩ : ∃ x, x = Sh.gi l k := ⟨_, rfl⟩
      rw [← hx] at hst e0
      have hwc := Lib.hid (with_calls out x A3 c3 wr hC3.out hc3.out (by omega))
      have hwl := Sh.withF_len out x
      obtain ⟨O, hO⟩ : ∃ O, O = Sh.withF out x := ⟨_, rfl⟩
      rw [← hO] at hst hwc hwl
      replace hO := Lib.hid hO
      replace hx := Lib.hid hx
      go_wp2_with fail
      refine (hwc.out).mono ?_
      rintro e w1 ⟨⟨A5, c5, rfl, hc5, hC5⟩, hB5⟩
      have hB6 := Lib.hid (hB.out.trans (hB5.mono hB.out.size))
      replace hc5 := Lib.hid hc5
      replace hC5 := Lib.hid hC5
      clear hB5
      go_wp2
      go_roundg (n - (k + 1))
      case measure => have := hg.out; omega
      case rel => exact ⟨k + 1, O, A5, c5, by go_num, by omega, Lib.hid (by omega), rfl, hc5, hC5, by omega, Lib.hid hst.out.symm, hB6⟩
    · have hall : Hid (out = Sh.sortF l) := Lib.hid (by rw [hout.out, List.take_of_length_le (by have := hnh.out; omega)])
      go_wp2
      go_ret
      exact ⟨⟨A3, c3, by rw [← hall.out]; rfl, by rw [← hall.out]; exact hc3.out, by rw [← hall.out]; exact hC3.out⟩, hB.out⟩
end Go.Proofs.YtbfedeedicnedaaGreat
end

section
set_option linter.unusedVariables false
set_option linter.unusedSimpArgs false
namespace Go.Proofs.YtbfedeedicnedaaGreat
open Go.RowKit
open Go.Proofs.YtbfedeedicnedaaGreatW.PrintWords
namespace Sh
def bigN (p : Nd) : Bool := decide (2100 < p.1.length) || decide (40 < p.2.length)
def largeB (H : Hp) : Bool := if 3000 < H.length then decide (3100 < H.length) else if 400 < H.length then true else H.any bigN
theorem drop_nd (H : Hp) (i : Nat) (h : i < H.length) : H.drop i = nd H (i : Int) :: H.drop (i + 1) := by
  rw [List.drop_eq_getElem_cons h]
  unfold nd
  rw [List.getD_eq_getElem?_getD, Int.toNat_natCast, List.getElem?_eq_getElem h]
  rfl
theorem largeB_small {H : Hp} (h : largeB H = false) : H.length ≤ 3100 ∧ (H.length ≤ 3000 → H.length ≤ 400 ∧ ∀ p ∈ H, p.1.length ≤ 2100 ∧ p.2.length ≤ 40) := by
  unfold largeB at h
  by_cases h1 : 3000 < H.length
  · rw [if_pos h1] at h
    have := of_decide_eq_false h
    exact ⟨by omega, fun h2 => by omega⟩
  · rw [if_neg h1] at h
    by_cases h2 : 400 < H.length
    · rw [if_pos h2] at h; cases h
    · rw [if_neg h2] at h
      refine ⟨by omega, fun _ => ⟨by omega, fun p hp => ?_⟩⟩
      have := List.any_eq_false.1 h p hp
      unfold bigN at this
      simp at this
      omega
end Sh
namespace PAll
theorem ev_large_l (H : Sh.Hp) (hl : H.length ≤ 1000000) : ∀ (n i : Nat), i ≤ H.length → H.length - i = n → Ev (fun k => swardlaw12_large.l0 k (sn H) i) ((H.drop i).any Sh.bigN) := by
  intro n
  induction n with
  | zero =>
    intro i hi hn
    have h1 : ¬ ((i : Int) < ((sn H).length : Int)) := by rw [sn_len]; omega
    rw [List.drop_of_length_le (by omega)]
    refine Ev.succ ?_
    simp only [swardlaw12_large.l0, h1, if_false]
    exact Ev.now _
  | succ n ih =>
    intro i hi hn
    have h1 : (i : Int) < ((sn H).length : Int) := by rw [sn_len]; omega
    have h2 : (0 : Int) ≤ (i : Int) := by omega
    have hw := wrap_succ i (by omega)
    have ih1 := ih (i + 1) (by omega) (by omega)
    rw [Sh.drop_nd H i (by omega), List.any_cons]
    refine Ev.succ ?_
    simp only [swardlaw12_large.l0, h1, h2, if_true, (rd_sn H i).1, (rd_sn H i).2, hw]
    have e : Sh.bigN (Sh.nd H (i : Int)) = (decide (2100 < (Sh.nd H (i : Int)).1.length) || decide (40 < (Sh.nd H (i : Int)).2.length)) := rfl
    rw [e]
    by_cases h3 : (((Sh.nd H (i : Int)).1.length : Int) > 2100)
    · simp only [h3, if_true]
      rw [decide_eq_true (show 2100 < (Sh.nd H (i : Int)).1.length by omega), Bool.true_or, Bool.true_or]
      exact Ev.now _
    · simp only [h3, if_false]
      rw [decide_eq_false (show ¬ 2100 < (Sh.nd H (i : Int)).1.length by omega), Bool.false_or]
      by_cases h4 : (((Sh.nd H (i : Int)).2.length : Int) > 40)
      · simp only [h4, if_true]
        rw [decide_eq_true (show 40 < (Sh.nd H (i : Int)).2.length by omega), Bool.true_or]
        exact Ev.now _
      · simp only [h4, if_false]
        rw [decide_eq_false (show ¬ 40 < (Sh.nd H (i : Int)).2.length by omega), Bool.false_or]
        exact ih1
theorem ev_large (H : Sh.Hp) : Ev (fun k => swardlaw12_large.f k (sn H)) (Sh.largeB H) := by
  unfold swardlaw12_large.f Sh.largeB
  rw [sn_len]
  by_cases h1 : (H.length : Int) > 3000
  · rw [if_pos (show 3000 < H.length by omega)]
    simp only [h1, if_true]
    have e : decide ((H.length : Int) > 3100) = decide (3100 < H.length) := by
      by_cases h : 3100 < H.length
      · rw [decide_eq_true h, decide_eq_true (by omega)]
      · rw [decide_eq_false h, decide_eq_false (by omega)]
    rw [e]
    exact Ev.now _
  · rw [if_neg (show ¬ 3000 < H.length by omega)]
    simp only [h1, if_false]
    by_cases h2 : (H.length : Int) > 400
    · rw [if_pos (show 400 < H.length by omega)]
      simp only [h2, if_true]
      exact Ev.now _
    · rw [if_neg (show ¬ 400 < H.length by omega)]
      simp only [h2, if_false]
      have := ev_large_l H (by omega) H.length 0 (Nat.zero_le _) (by omega)
      rw [List.drop_zero] at this
      exact this
end PAll
theorem large_calls (H : Sh.Hp) (A : Option Addr) (c : Nat) (w : World) (hC : Nodes w A H) (hc : H.length ≤ c) {b : Bool} (hb : Sh.largeB H = b) :
    Calls Tryz.prog 14 #[.slice A H.length c] w fun e w' => e = .returned (.bool b) ∧ Drawn0 w w' := by
  subst hb
  obtain ⟨k, hk⟩ := (PAll.ev_large H).rounds
  have hC' : Kd.C PAll.k95 w A (sn H).length (sn H) := by rw [sn_len]; exact hC
  have := PAll.swardlaw12_large.calls k A c (sn H) _ w hC' (by rw [sn_len]; exact hc) hk
  rw [sn_len] at this
  exact this
end Go.Proofs.YtbfedeedicnedaaGreat
end

section
set_option linter.unusedVariables false
set_option linter.unusedSimpArgs false
namespace Go.Proofs.YtbfedeedicnedaaGreat
open Go.RowKit
open Go.Proofs.YtbfedeedicnedaaGreatW.PrintWords
set_option maxRecDepth 100000 in
set_option maxHeartbeats 1000000 in
theorem Make_long {H : Sh.Hp} {f : Int} {l : List Int} {A A1 : Option Addr} {c c1 : Nat} {w : World} (h : 3000 < H.length ∨ 2000 < l.length) (h1 : H.length ≤ 1000000) (h2 : l.length ≤ 1000000) :
    Calls Tryz.prog 29 #[.slice A H.length c, .int .i64 f, .slice A1 l.length c1] w fun e w' => Out3 w.heap.size w' e [] 0 0 0 3 ∧ Below w.heap.size w w' := by
  have hB := Lib.hid (show Below w.heap.size w (w.alloc zero25) from (Below.refl _ _).alloc (Nat.le_refl _) _)
  by_cases h3 : 3000 < H.length
  · clear h
    go_enter Tryz.func29, Tryz.ntmps29
    go_wp2
    refine bodyPost_ret (results_tct rfl _ _ w.heap.size #[.int .i64 0, .int .i64 0, .int .i64 0] rfl (load_shape (heap_alloc_new w _) rfl)) rfl ?_
    exact ⟨⟨_, rfl, Kd.R_nil _ _ _ _ _⟩, hB.out⟩
  · have h4 : 2000 < l.length := by omega
    clear h
    go_enter Tryz.func29, Tryz.ntmps29
    go_wp2
    refine bodyPost_ret (results_tct rfl _ _ w.heap.size #[.int .i64 0, .int .i64 0, .int .i64 0] rfl (load_shape (heap_alloc_new w _) rfl)) rfl ?_
    exact ⟨⟨_, rfl, Kd.R_nil _ _ _ _ _⟩, hB.out⟩
set_option maxRecDepth 100000 in
set_option maxHeartbeats 1000000 in
theorem Make_bad {H : Sh.Hp} {f : Int} {l : List Int} {A A1 : Option Addr} {c c1 : Nat} {w : World} (hL : Kd.C kI w A1 l.length l) (h : H.length ≤ 3000 ∧ l.length ≤ 2000) (hb : ¬ (1 ≤ f ∧ f ≤ 5) ∨ (l.any fun x => !(Sh.el x)) = true) :
    Calls Tryz.prog 29 #[.slice A H.length c, .int .i64 f, .slice A1 l.length c1] w fun e w' => Out3 w.heap.size w' e [] 0 0 0 2 ∧ Below w.heap.size w w' := by
  have hB := Lib.hid (show Below w.heap.size w (w.alloc zero25) from (Below.refl _ _).alloc (Nat.le_refl _) _)
  obtain ⟨h3, h4⟩ := h
  have hkn := Lib.hid (fun W => known_calls f W)
  by_cases hf : 1 ≤ f ∧ f ≤ 5
  · have hkf : (decide (1 ≤ f) && decide (f ≤ 5)) = true := by rw [decide_eq_true hf.1, decide_eq_true hf.2]; rfl
    rw [hkf] at hkn
    have hb2 : (l.any fun x => !(Sh.el x)) = true := by rcases hb with h | h; exact absurd hf h; exact h
    have hcf := Lib.hid (containsF_calls l A1 c1 (w.alloc zero25) (Kd.C_alloc hL _) (by omega))
    rw [hb2] at hcf
    clear hb hb2 hkf hL hf
    go_enter Tryz.func29, Tryz.ntmps29
    go_wp2_with fail
    refine (hkn.out _).mono ?_
    rintro e w1 ⟨rfl, rfl⟩
    go_wp2_with fail
    refine (hcf.out).mono ?_
    rintro e w1 ⟨rfl, rfl⟩
    go_wp2
    refine bodyPost_ret (results_tct rfl _ _ w.heap.size #[.int .i64 0, .int .i64 0, .int .i64 0] rfl (load_shape (heap_alloc_new w _) rfl)) rfl ?_
    exact ⟨⟨_, rfl, Kd.R_nil _ _ _ _ _⟩, hB.out⟩
  · have hkf : (decide (1 ≤ f) && decide (f ≤ 5)) = false := by rw [Bool.and_eq_false_iff, decide_eq_false_iff_not, decide_eq_false_iff_not]; omega
    rw [hkf] at hkn
    clear hb hkf hL hf
    go_enter Tryz.func29, Tryz.ntmps29
    go_wp2_with fail
    refine (hkn.out _).mono ?_
    rintro e w1 ⟨rfl, rfl⟩
    go_wp2
    refine bodyPost_ret (results_tct rfl _ _ w.heap.size #[.int .i64 0, .int .i64 0, .int .i64 0] rfl (load_shape (heap_alloc_new w _) rfl)) rfl ?_
    exact ⟨⟨_, rfl, Kd.R_nil _ _ _ _ _⟩, hB.out⟩
end Go.Proofs.YtbfedeedicnedaaGreat
end
