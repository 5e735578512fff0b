/-
  Texts of this claim: RAll7, RAll9, RAll10, RAll11.
-/
import Derived.Test.YtbfedeedicnedaaGreatSj15
set_option linter.unusedVariables false
set_option linter.unusedSimpArgs false
set_option maxHeartbeats 8000000
set_option maxRecDepth 100000
section
namespace Go.Proofs.YtbfedeedicnedaaGreat.PAll
open Go.RowKit Go.Proofs.YtbfedeedicnedaaGreatW.PrintWords Go.Proofs.YtbfedeedicnedaaGreatW.PrintLast Go.Proofs.YtbfedeedicnedaaGreatW.PrintMore
attribute [local go_sem] max2_int min2_int max_two min_two max_three min_three max_four min_four
mutual
def swardlaw12_fresh.j0 : Nat → List (S95) → List (S95) → Bool → Option (Bool)
 | 0, _, _, _ => none
 | k + 1, x0, x1, x21 => if x21 = true then (some false) else (swardlaw12_fresh.l0 k x0 x1 0)
def swardlaw12_fresh.l0 : Nat → List (S95) → List (S95) → Int → Option (Bool)
 | 0, _, _, _ => none
 | k + 1, x0, x1, x7 => if x7 < (x0.length : Int) then (if 0 ≤ x7 then (if x7 < (x1.length : Int) then ((swardlaw12_same.f k ((rd_T95 x0 x7).f0) ((rd_T95 x1 x7).f0)).bind fun t409 => (if t409 = true then ((swardlaw12_same.f k ((rd_T95 x0 x7).f1) ((rd_T95 x1 x7).f1)).bind fun t412 => (if t412 = true then (swardlaw12_fresh.l0 k x0 x1 (wrap64 (x7 + 1))) else (some false))) else (some false))) else (none)) else (none)) else (some true)
end
def swardlaw12_fresh.f (k : Nat) (l0 : List (S95)) (l1 : List (S95)) (a2 : Int) : Option (Bool) := if (l1.length : Int) < (l0.length : Int) then (swardlaw12_fresh.j0 k l0 l1 true) else (swardlaw12_fresh.j0 k l0 l1 (decide ((wrap64 ((l1.length : Int) - (l0.length : Int))) > a2)))
theorem swardlaw12_fresh.calls (k : Nat) (A0 : Option Addr) (c0 : Nat) (l0 : List (S95)) (A1 : Option Addr) (c1 : Nat) (l1 : List (S95)) (a2 : Int) (r : Bool) (w : World) (hr0 : Kd.C k95 w A0 l0.length l0) (hc0 : l0.length ≤ c0) (hr1 : Kd.C k95 w A1 l1.length l1) (hc1 : l1.length ≤ c1) (h : swardlaw12_fresh.f k l0 l1 a2 = some r) :
  Calls Tryz.prog 58 #[.slice A0 l0.length c0, .slice A1 l1.length c1, .int .i64 a2] w fun e w' => e = .returned (.bool r) ∧ Drawn0 w w' := by
 have HR0 := Aside0.mk hr0
 have HC0 := Aside0.mk hc0
 clear hr0 hc0
 have HR1 := Aside0.mk hr1
 have HC1 := Aside0.mk hc1
 clear hr1 hc1
 have H : (if (l1.length : Int) < (l0.length : Int) then (swardlaw12_fresh.j0 k l0 l1 true) else (swardlaw12_fresh.j0 k l0 l1 (decide ((wrap64 ((l1.length : Int) - (l0.length : Int))) > a2)))) = some r := h
 clear h
 have HC4 := Aside0.mk H
 clear H
 go_enter Tryz.func58, Tryz.ntmps58
 go_upto_region 1 with (fail)
 repeat (go_quiet (fail); go_upto_region 1 with (fail))
 go_cut [21] (fun v21 wc => ∃ (kq : Nat) (x21_3 : Bool), v21 = .bool x21_3 ∧ Aside0 (swardlaw12_fresh.j0 kq l0 l1 x21_3 = some r) ∧ Aside0 (kq ≤ k) ∧ Drawn0 w wc)
 case first =>
  have H := HC4.out
  clear HC4
  by_cases c5 : (l1.length : Int) < (l0.length : Int)
  ·rw [if_pos c5] at H
   have c5b0 : decide ((l1.length : Int) < (l0.length : Int)) = true := decide_eq_true c5
   have c5b1 : decide (l1.length < l0.length) = true := decide_eq_true (Int.ofNat_lt.mp c5)
   clear c5
   (first | rw [c5b0] | (simp only [i64_w, i32_w]; rw [c5b0]) | skip)
   have H' := Aside0.mk H
   clear H
   go_wp2
   repeat (go_quiet (fail); try go_wp2)
   go_meet
   case rel => exact ⟨_, (true), (by first | rfl | (simp; done) | (simp [*]; done)), H', ⟨by first | omega | exact Nat.le_refl _⟩, by repeat (first | exact Drawn0.refl _ | apply Drawn0.step)⟩
  ·rw [if_neg c5] at H
   have c5b0 : decide ((l1.length : Int) < (l0.length : Int)) = false := decide_eq_false c5
   have c5b1 : decide (l1.length < l0.length) = false := decide_eq_false (fun h => c5 (Int.ofNat_lt.mpr h))
   clear c5
   (first | rw [c5b0] | (simp only [i64_w, i32_w]; rw [c5b0]) | skip)
   have H' := Aside0.mk H
   clear H
   go_wp2
   repeat (go_quiet (fail); try go_wp2)
   go_meet
   case rel => exact ⟨_, (decide ((wrap64 ((l1.length : Int) - (l0.length : Int))) > a2)), (by first | rfl | (simp; done) | (simp [*]; done)), H', ⟨by first | omega | exact Nat.le_refl _⟩, by repeat (first | exact Drawn0.refl _ | apply Drawn0.step)⟩
 case rest =>
  clear HC4
  try clear c1
  try clear p2
  try clear c5
  try clear c5b0
  try clear c5b1
  obtain ⟨kq, x21_3, rfl, HA, HJ3, ⟨mc3, rfl⟩⟩ := hcut
  cases kq with
  | zero => exact absurd HA.out (by simp [swardlaw12_fresh.j0])
  | succ kj3 =>
   have H := HA.out
   clear HA
   simp only [swardlaw12_fresh.j0] at H
   by_cases c6 : x21_3 = true
   ·subst c6
    have H1 : (some false) = some r := by rw [if_pos rfl] at H; exact H
    clear H
    have H := H1
    clear H1
    obtain rfl := Option.some.inj H
    go_wp2
    repeat (go_quiet (fail); try go_wp2)
    go_ret
    exact ⟨by first | rfl | (simp; done) | (simp [*]; done), by repeat (first | exact Drawn0.refl _ | apply Drawn0.step)⟩
   ·replace c6 := Bool.eq_false_iff.mpr c6
    subst c6
    have H1 : (swardlaw12_fresh.l0 kj3 l0 l1 0) = some r := by rw [if_neg (show ¬ (false = true) by decide)] at H; exact H
    clear H
    have H := H1
    clear H1
    have H' := Aside0.mk H
    clear H
    go_wp2
    repeat (go_quiet (fail); try go_wp2)
    go_loopg [7] kj3 (fun kq v7 w' => ∃ (x7_2 : Int), v7 = .int .i64 x7_2 ∧ Aside0 (swardlaw12_fresh.l0 kq l0 l1 x7_2 = some r) ∧ Aside0 (kq ≤ kj3) ∧ Drawn0 w w')
    case atStart => exact ⟨(0), (by first | rfl | (simp; done) | (simp [*]; done)), H', ⟨Nat.le_refl _⟩, by repeat (first | exact Drawn0.refl _ | apply Drawn0.step)⟩
    case round =>
     clear H'
     try clear c1
     try clear p2
     try clear c3
     try clear c5
     try clear c5b0
     try clear c5b1
     try clear c6
     try clear p6
     try clear p2
     obtain ⟨x7_2, rfl, HA, HK2, ⟨m2, rfl⟩⟩ := hrel
     cases gk with
     | zero => exact absurd HA.out (by simp [swardlaw12_fresh.l0])
     | succ k2 =>
      have H := HA.out
      clear HA
      simp only [swardlaw12_fresh.l0] at H
      by_cases c7 : x7_2 < (l0.length : Int)
      ·rw [if_pos c7] at H
       have c7b0 : decide (x7_2 < (l0.length : Int)) = true := decide_eq_true c7
       clear c7
       by_cases c8 : 0 ≤ x7_2
       ·rw [if_pos c8] at H
        have c8b0 : decide (0 ≤ x7_2) = true := decide_eq_true c8
        clear c8
        by_cases c9 : x7_2 < (l1.length : Int)
        ·rw [if_pos c9] at H
         have c9b0 : decide (x7_2 < (l1.length : Int)) = true := decide_eq_true c9
         clear c9
         replace H := Option.bind_eq_some_iff.mp H
         obtain ⟨t409, A100, H⟩ := H
         replace H : (if t409 = true then ((swardlaw12_same.f k2 ((rd_T95 l0 x7_2).f1) ((rd_T95 l1 x7_2).f1)).bind fun t412 => (if t412 = true then (swardlaw12_fresh.l0 k2 l0 l1 (wrap64 (x7_2 + 1))) else (some false))) else (some false)) = some r := H
         have A10 := Aside0.mk A100
         clear A100
         by_cases c11 : t409 = true
         ·subst c11
          have H1 : ((swardlaw12_same.f k2 ((rd_T95 l0 x7_2).f1) ((rd_T95 l1 x7_2).f1)).bind fun t412 => (if t412 = true then (swardlaw12_fresh.l0 k2 l0 l1 (wrap64 (x7_2 + 1))) else (some false))) = some r := by rw [if_pos rfl] at H; exact H
          clear H
          have H := H1
          clear H1
          replace H := Option.bind_eq_some_iff.mp H
          obtain ⟨t412, A120, H⟩ := H
          replace H : (if t412 = true then (swardlaw12_fresh.l0 k2 l0 l1 (wrap64 (x7_2 + 1))) else (some false)) = some r := H
          have A12 := Aside0.mk A120
          clear A120
          by_cases c13 : t412 = true
          ·subst c13
           have H1 : (swardlaw12_fresh.l0 k2 l0 l1 (wrap64 (x7_2 + 1))) = some r := by rw [if_pos rfl] at H; exact H
           clear H
           have H := H1
           clear H1
           have H' := Aside0.mk H
           clear H
           have p407 : 0 ≤ (x7_2 : Int) := of_decide_eq_true (by first | (with_reducible assumption) | assumption)
           have q407 : x7_2 < (l0.length : Int) := of_decide_eq_true (by first | (with_reducible assumption) | assumption)
           obtain ⟨ad407, A407_0, c407_0, A407_1, c407_1, e407, hx407_0, hx407_1, hl407_0, hi407_0, hl407_1, hi407_1⟩ := at_T95 HR0.out x7_2 p407 q407
           cases e407
           have HR407_0 := Aside0.mk hi407_0
           have HC407_0 := Aside0.mk hl407_0
           clear hi407_0 hl407_0
           have HR407_1 := Aside0.mk hi407_1
           have HC407_1 := Aside0.mk hl407_1
           clear hi407_1 hl407_1
           replace p407 := eq_true p407
           replace q407 := eq_true q407
           have p408 : 0 ≤ (x7_2 : Int) := of_decide_eq_true (by first | (with_reducible assumption) | assumption)
           have q408 : x7_2 < (l1.length : Int) := of_decide_eq_true (by first | (with_reducible assumption) | assumption)
           obtain ⟨ad408, A408_0, c408_0, A408_1, c408_1, e408, hx408_0, hx408_1, hl408_0, hi408_0, hl408_1, hi408_1⟩ := at_T95 HR1.out x7_2 p408 q408
           cases e408
           have HR408_0 := Aside0.mk hi408_0
           have HC408_0 := Aside0.mk hl408_0
           clear hi408_0 hl408_0
           have HR408_1 := Aside0.mk hi408_1
           have HC408_1 := Aside0.mk hl408_1
           clear hi408_1 hl408_1
           replace p408 := eq_true p408
           replace q408 := eq_true q408
           go_wp2_with (first | (go_at_call 24; (with_reducible refine (swardlaw12_same.calls k2 _ _ ((rd_T95 l0 x7_2).f0) _ _ ((rd_T95 l1 x7_2).f0) true _ ?side1 ?side2 ?side3 ?side4 A10.out).mono ?_); (case side1 => repeat (first | exact HR407_0.out | (with_reducible refine Kd.C_alloc ?_ _) | (with_reducible refine Kd.C_drewN ?_ _) | (with_reducible refine Kd.C_drew ?_))); (case side2 => exact HC407_0.out); (case side3 => repeat (first | exact HR408_0.out | (with_reducible refine Kd.C_alloc ?_ _) | (with_reducible refine Kd.C_drewN ?_ _) | (with_reducible refine Kd.C_drew ?_))); (case side4 => exact HC408_0.out); rintro e w' ⟨rfl, ⟨nd, rfl⟩⟩; (try first | exact ⟨rfl, _, World.drewN_drewN _ _ _⟩ | exact ⟨rfl, _, Eq.trans (World.drewN_drewN _ _ _) (congrArg (World.drewN _) (Nat.add_assoc _ _ _))⟩); all_goals (have p410 : 0 ≤ (x7_2 : Int) := of_decide_eq_true (by first | (with_reducible assumption) | assumption); have q410 : x7_2 < (l0.length : Int) := of_decide_eq_true (by first | (with_reducible assumption) | assumption); obtain ⟨ad410, A410_0, c410_0, A410_1, c410_1, e410, hx410_0, hx410_1, hl410_0, hi410_0, hl410_1, hi410_1⟩ := at_T95 HR0.out x7_2 p410 q410; obtain rfl : ad407 = ad410 := (by injection e410); have HR410_0 := Aside0.mk hi410_0; have HC410_0 := Aside0.mk hl410_0; clear hi410_0 hl410_0; have HR410_1 := Aside0.mk hi410_1; have HC410_1 := Aside0.mk hl410_1; clear hi410_1 hl410_1; replace p410 := eq_true p410; replace q410 := eq_true q410; have ea_ := Option.some.inj (hx407_0.symm.trans hx410_0); injection ea_ with ea_ en_ ec_; subst ea_; subst ec_; clear en_; have ea_ := Option.some.inj (hx407_1.symm.trans hx410_1); injection ea_ with ea_ en_ ec_; subst ea_; subst ec_; clear en_; have p411 : 0 ≤ (x7_2 : Int) := of_decide_eq_true (by first | (with_reducible assumption) | assumption); have q411 : x7_2 < (l1.length : Int) := of_decide_eq_true (by first | (with_reducible assumption) | assumption); obtain ⟨ad411, A411_0, c411_0, A411_1, c411_1, e411, hx411_0, hx411_1, hl411_0, hi411_0, hl411_1, hi411_1⟩ := at_T95 HR1.out x7_2 p411 q411; obtain rfl : ad408 = ad411 := (by injection e411); have HR411_0 := Aside0.mk hi411_0; have HC411_0 := Aside0.mk hl411_0; clear hi411_0 hl411_0; have HR411_1 := Aside0.mk hi411_1; have HC411_1 := Aside0.mk hl411_1; clear hi411_1 hl411_1; replace p411 := eq_true p411; replace q411 := eq_true q411; have ea_ := Option.some.inj (hx408_0.symm.trans hx411_0); injection ea_ with ea_ en_ ec_; subst ea_; subst ec_; clear en_; have ea_ := Option.some.inj (hx408_1.symm.trans hx411_1); injection ea_ with ea_ en_ ec_; subst ea_; subst ec_; clear en_)) | (go_at_call 24; (with_reducible refine (swardlaw12_same.calls k2 _ _ ((rd_T95 l0 x7_2).f1) _ _ ((rd_T95 l1 x7_2).f1) true _ ?side1 ?side2 ?side3 ?side4 A12.out).mono ?_); (case side1 => repeat (first | exact HR410_1.out | (with_reducible refine Kd.C_alloc ?_ _) | (with_reducible refine Kd.C_drewN ?_ _) | (with_reducible refine Kd.C_drew ?_))); (case side2 => exact HC410_1.out); (case side3 => repeat (first | exact HR411_1.out | (with_reducible refine Kd.C_alloc ?_ _) | (with_reducible refine Kd.C_drewN ?_ _) | (with_reducible refine Kd.C_drew ?_))); (case side4 => exact HC411_1.out); rintro e w' ⟨rfl, ⟨nd, rfl⟩⟩; (try first | exact ⟨rfl, _, World.drewN_drewN _ _ _⟩ | exact ⟨rfl, _, Eq.trans (World.drewN_drewN _ _ _) (congrArg (World.drewN _) (Nat.add_assoc _ _ _))⟩)))
           repeat (go_quiet (first | (go_at_call 24; (with_reducible refine (swardlaw12_same.calls k2 _ _ ((rd_T95 l0 x7_2).f0) _ _ ((rd_T95 l1 x7_2).f0) true _ ?side1 ?side2 ?side3 ?side4 A10.out).mono ?_); (case side1 => repeat (first | exact HR407_0.out | (with_reducible refine Kd.C_alloc ?_ _) | (with_reducible refine Kd.C_drewN ?_ _) | (with_reducible refine Kd.C_drew ?_))); (case side2 => exact HC407_0.out); (case side3 => repeat (first | exact HR408_0.out | (with_reducible refine Kd.C_alloc ?_ _) | (with_reducible refine Kd.C_drewN ?_ _) | (with_reducible refine Kd.C_drew ?_))); (case side4 => exact HC408_0.out); rintro e w' ⟨rfl, ⟨nd, rfl⟩⟩; (try first | exact ⟨rfl, _, World.drewN_drewN _ _ _⟩ | exact ⟨rfl, _, Eq.trans (World.drewN_drewN _ _ _) (congrArg (World.drewN _) (Nat.add_assoc _ _ _))⟩); all_goals (have p410 : 0 ≤ (x7_2 : Int) := of_decide_eq_true (by first | (with_reducible assumption) | assumption); have q410 : x7_2 < (l0.length : Int) := of_decide_eq_true (by first | (with_reducible assumption) | assumption); obtain ⟨ad410, A410_0, c410_0, A410_1, c410_1, e410, hx410_0, hx410_1, hl410_0, hi410_0, hl410_1, hi410_1⟩ := at_T95 HR0.out x7_2 p410 q410; obtain rfl : ad407 = ad410 := (by injection e410); have HR410_0 := Aside0.mk hi410_0; have HC410_0 := Aside0.mk hl410_0; clear hi410_0 hl410_0; have HR410_1 := Aside0.mk hi410_1; have HC410_1 := Aside0.mk hl410_1; clear hi410_1 hl410_1; replace p410 := eq_true p410; replace q410 := eq_true q410; have ea_ := Option.some.inj (hx407_0.symm.trans hx410_0); injection ea_ with ea_ en_ ec_; subst ea_; subst ec_; clear en_; have ea_ := Option.some.inj (hx407_1.symm.trans hx410_1); injection ea_ with ea_ en_ ec_; subst ea_; subst ec_; clear en_; have p411 : 0 ≤ (x7_2 : Int) := of_decide_eq_true (by first | (with_reducible assumption) | assumption); have q411 : x7_2 < (l1.length : Int) := of_decide_eq_true (by first | (with_reducible assumption) | assumption); obtain ⟨ad411, A411_0, c411_0, A411_1, c411_1, e411, hx411_0, hx411_1, hl411_0, hi411_0, hl411_1, hi411_1⟩ := at_T95 HR1.out x7_2 p411 q411; obtain rfl : ad408 = ad411 := (by injection e411); have HR411_0 := Aside0.mk hi411_0; have HC411_0 := Aside0.mk hl411_0; clear hi411_0 hl411_0; have HR411_1 := Aside0.mk hi411_1; have HC411_1 := Aside0.mk hl411_1; clear hi411_1 hl411_1; replace p411 := eq_true p411; replace q411 := eq_true q411; have ea_ := Option.some.inj (hx408_0.symm.trans hx411_0); injection ea_ with ea_ en_ ec_; subst ea_; subst ec_; clear en_; have ea_ := Option.some.inj (hx408_1.symm.trans hx411_1); injection ea_ with ea_ en_ ec_; subst ea_; subst ec_; clear en_)) | (go_at_call 24; (with_reducible refine (swardlaw12_same.calls k2 _ _ ((rd_T95 l0 x7_2).f1) _ _ ((rd_T95 l1 x7_2).f1) true _ ?side1 ?side2 ?side3 ?side4 A12.out).mono ?_); (case side1 => repeat (first | exact HR410_1.out | (with_reducible refine Kd.C_alloc ?_ _) | (with_reducible refine Kd.C_drewN ?_ _) | (with_reducible refine Kd.C_drew ?_))); (case side2 => exact HC410_1.out); (case side3 => repeat (first | exact HR411_1.out | (with_reducible refine Kd.C_alloc ?_ _) | (with_reducible refine Kd.C_drewN ?_ _) | (with_reducible refine Kd.C_drew ?_))); (case side4 => exact HC411_1.out); rintro e w' ⟨rfl, ⟨nd, rfl⟩⟩; (try first | exact ⟨rfl, _, World.drewN_drewN _ _ _⟩ | exact ⟨rfl, _, Eq.trans (World.drewN_drewN _ _ _) (congrArg (World.drewN _) (Nat.add_assoc _ _ _))⟩))); try go_wp2)
           go_roundg k2
           case measure => have := HJ3.out; have := HK2.out; omega
           case rel => exact ⟨(wrap64 (x7_2 + 1)), (by first | rfl | (simp; done) | (simp [*]; done)), H', ⟨by have := HJ3.out; have := HK2.out; omega⟩, by repeat (first | exact Drawn0.refl _ | apply Drawn0.step)⟩
          ·replace c13 := Bool.eq_false_iff.mpr c13
           subst c13
           have H1 : (some false) = some r := by rw [if_neg (show ¬ (false = true) by decide)] at H; exact H
           clear H
           have H := H1
           clear H1
           obtain rfl := Option.some.inj H
           have p407 : 0 ≤ (x7_2 : Int) := of_decide_eq_true (by first | (with_reducible assumption) | assumption)
           have q407 : x7_2 < (l0.length : Int) := of_decide_eq_true (by first | (with_reducible assumption) | assumption)
           obtain ⟨ad407, A407_0, c407_0, A407_1, c407_1, e407, hx407_0, hx407_1, hl407_0, hi407_0, hl407_1, hi407_1⟩ := at_T95 HR0.out x7_2 p407 q407
           cases e407
           have HR407_0 := Aside0.mk hi407_0
           have HC407_0 := Aside0.mk hl407_0
           clear hi407_0 hl407_0
           have HR407_1 := Aside0.mk hi407_1
           have HC407_1 := Aside0.mk hl407_1
           clear hi407_1 hl407_1
           replace p407 := eq_true p407
           replace q407 := eq_true q407
           have p408 : 0 ≤ (x7_2 : Int) := of_decide_eq_true (by first | (with_reducible assumption) | assumption)
           have q408 : x7_2 < (l1.length : Int) := of_decide_eq_true (by first | (with_reducible assumption) | assumption)
           obtain ⟨ad408, A408_0, c408_0, A408_1, c408_1, e408, hx408_0, hx408_1, hl408_0, hi408_0, hl408_1, hi408_1⟩ := at_T95 HR1.out x7_2 p408 q408
           cases e408
           have HR408_0 := Aside0.mk hi408_0
           have HC408_0 := Aside0.mk hl408_0
           clear hi408_0 hl408_0
           have HR408_1 := Aside0.mk hi408_1
           have HC408_1 := Aside0.mk hl408_1
           clear hi408_1 hl408_1
           replace p408 := eq_true p408
           replace q408 := eq_true q408
           go_wp2_with (first | (go_at_call 24; (with_reducible refine (swardlaw12_same.calls k2 _ _ ((rd_T95 l0 x7_2).f0) _ _ ((rd_T95 l1 x7_2).f0) true _ ?side1 ?side2 ?side3 ?side4 A10.out).mono ?_); (case side1 => repeat (first | exact HR407_0.out | (with_reducible refine Kd.C_alloc ?_ _) | (with_reducible refine Kd.C_drewN ?_ _) | (with_reducible refine Kd.C_drew ?_))); (case side2 => exact HC407_0.out); (case side3 => repeat (first | exact HR408_0.out | (with_reducible refine Kd.C_alloc ?_ _) | (with_reducible refine Kd.C_drewN ?_ _) | (with_reducible refine Kd.C_drew ?_))); (case side4 => exact HC408_0.out); rintro e w' ⟨rfl, ⟨nd, rfl⟩⟩; (try first | exact ⟨rfl, _, World.drewN_drewN _ _ _⟩ | exact ⟨rfl, _, Eq.trans (World.drewN_drewN _ _ _) (congrArg (World.drewN _) (Nat.add_assoc _ _ _))⟩); all_goals (have p410 : 0 ≤ (x7_2 : Int) := of_decide_eq_true (by first | (with_reducible assumption) | assumption); have q410 : x7_2 < (l0.length : Int) := of_decide_eq_true (by first | (with_reducible assumption) | assumption); obtain ⟨ad410, A410_0, c410_0, A410_1, c410_1, e410, hx410_0, hx410_1, hl410_0, hi410_0, hl410_1, hi410_1⟩ := at_T95 HR0.out x7_2 p410 q410; obtain rfl : ad407 = ad410 := (by injection e410); have HR410_0 := Aside0.mk hi410_0; have HC410_0 := Aside0.mk hl410_0; clear hi410_0 hl410_0; have HR410_1 := Aside0.mk hi410_1; have HC410_1 := Aside0.mk hl410_1; clear hi410_1 hl410_1; replace p410 := eq_true p410; replace q410 := eq_true q410; have ea_ := Option.some.inj (hx407_0.symm.trans hx410_0); injection ea_ with ea_ en_ ec_; subst ea_; subst ec_; clear en_; have ea_ := Option.some.inj (hx407_1.symm.trans hx410_1); injection ea_ with ea_ en_ ec_; subst ea_; subst ec_; clear en_; have p411 : 0 ≤ (x7_2 : Int) := of_decide_eq_true (by first | (with_reducible assumption) | assumption); have q411 : x7_2 < (l1.length : Int) := of_decide_eq_true (by first | (with_reducible assumption) | assumption); obtain ⟨ad411, A411_0, c411_0, A411_1, c411_1, e411, hx411_0, hx411_1, hl411_0, hi411_0, hl411_1, hi411_1⟩ := at_T95 HR1.out x7_2 p411 q411; obtain rfl : ad408 = ad411 := (by injection e411); have HR411_0 := Aside0.mk hi411_0; have HC411_0 := Aside0.mk hl411_0; clear hi411_0 hl411_0; have HR411_1 := Aside0.mk hi411_1; have HC411_1 := Aside0.mk hl411_1; clear hi411_1 hl411_1; replace p411 := eq_true p411; replace q411 := eq_true q411; have ea_ := Option.some.inj (hx408_0.symm.trans hx411_0); injection ea_ with ea_ en_ ec_; subst ea_; subst ec_; clear en_; have ea_ := Option.some.inj (hx408_1.symm.trans hx411_1); injection ea_ with ea_ en_ ec_; subst ea_; subst ec_; clear en_)) | (go_at_call 24; (with_reducible refine (swardlaw12_same.calls k2 _ _ ((rd_T95 l0 x7_2).f1) _ _ ((rd_T95 l1 x7_2).f1) false _ ?side1 ?side2 ?side3 ?side4 A12.out).mono ?_); (case side1 => repeat (first | exact HR410_1.out | (with_reducible refine Kd.C_alloc ?_ _) | (with_reducible refine Kd.C_drewN ?_ _) | (with_reducible refine Kd.C_drew ?_))); (case side2 => exact HC410_1.out); (case side3 => repeat (first | exact HR411_1.out | (with_reducible refine Kd.C_alloc ?_ _) | (with_reducible refine Kd.C_drewN ?_ _) | (with_reducible refine Kd.C_drew ?_))); (case side4 => exact HC411_1.out); rintro e w' ⟨rfl, ⟨nd, rfl⟩⟩; (try first | exact ⟨rfl, _, World.drewN_drewN _ _ _⟩ | exact ⟨rfl, _, Eq.trans (World.drewN_drewN _ _ _) (congrArg (World.drewN _) (Nat.add_assoc _ _ _))⟩)))
           repeat (go_quiet (first | (go_at_call 24; (with_reducible refine (swardlaw12_same.calls k2 _ _ ((rd_T95 l0 x7_2).f0) _ _ ((rd_T95 l1 x7_2).f0) true _ ?side1 ?side2 ?side3 ?side4 A10.out).mono ?_); (case side1 => repeat (first | exact HR407_0.out | (with_reducible refine Kd.C_alloc ?_ _) | (with_reducible refine Kd.C_drewN ?_ _) | (with_reducible refine Kd.C_drew ?_))); (case side2 => exact HC407_0.out); (case side3 => repeat (first | exact HR408_0.out | (with_reducible refine Kd.C_alloc ?_ _) | (with_reducible refine Kd.C_drewN ?_ _) | (with_reducible refine Kd.C_drew ?_))); (case side4 => exact HC408_0.out); rintro e w' ⟨rfl, ⟨nd, rfl⟩⟩; (try first | exact ⟨rfl, _, World.drewN_drewN _ _ _⟩ | exact ⟨rfl, _, Eq.trans (World.drewN_drewN _ _ _) (congrArg (World.drewN _) (Nat.add_assoc _ _ _))⟩); all_goals (have p410 : 0 ≤ (x7_2 : Int) := of_decide_eq_true (by first | (with_reducible assumption) | assumption); have q410 : x7_2 < (l0.length : Int) := of_decide_eq_true (by first | (with_reducible assumption) | assumption); obtain ⟨ad410, A410_0, c410_0, A410_1, c410_1, e410, hx410_0, hx410_1, hl410_0, hi410_0, hl410_1, hi410_1⟩ := at_T95 HR0.out x7_2 p410 q410; obtain rfl : ad407 = ad410 := (by injection e410); have HR410_0 := Aside0.mk hi410_0; have HC410_0 := Aside0.mk hl410_0; clear hi410_0 hl410_0; have HR410_1 := Aside0.mk hi410_1; have HC410_1 := Aside0.mk hl410_1; clear hi410_1 hl410_1; replace p410 := eq_true p410; replace q410 := eq_true q410; have ea_ := Option.some.inj (hx407_0.symm.trans hx410_0); injection ea_ with ea_ en_ ec_; subst ea_; subst ec_; clear en_; have ea_ := Option.some.inj (hx407_1.symm.trans hx410_1); injection ea_ with ea_ en_ ec_; subst ea_; subst ec_; clear en_; have p411 : 0 ≤ (x7_2 : Int) := of_decide_eq_true (by first | (with_reducible assumption) | assumption); have q411 : x7_2 < (l1.length : Int) := of_decide_eq_true (by first | (with_reducible assumption) | assumption); obtain ⟨ad411, A411_0, c411_0, A411_1, c411_1, e411, hx411_0, hx411_1, hl411_0, hi411_0, hl411_1, hi411_1⟩ := at_T95 HR1.out x7_2 p411 q411; obtain rfl : ad408 = ad411 := (by injection e411); have HR411_0 := Aside0.mk hi411_0; have HC411_0 := Aside0.mk hl411_0; clear hi411_0 hl411_0; have HR411_1 := Aside0.mk hi411_1; have HC411_1 := Aside0.mk hl411_1; clear hi411_1 hl411_1; replace p411 := eq_true p411; replace q411 := eq_true q411; have ea_ := Option.some.inj (hx408_0.symm.trans hx411_0); injection ea_ with ea_ en_ ec_; subst ea_; subst ec_; clear en_; have ea_ := Option.some.inj (hx408_1.symm.trans hx411_1); injection ea_ with ea_ en_ ec_; subst ea_; subst ec_; clear en_)) | (go_at_call 24; (with_reducible refine (swardlaw12_same.calls k2 _ _ ((rd_T95 l0 x7_2).f1) _ _ ((rd_T95 l1 x7_2).f1) false _ ?side1 ?side2 ?side3 ?side4 A12.out).mono ?_); (case side1 => repeat (first | exact HR410_1.out | (with_reducible refine Kd.C_alloc ?_ _) | (with_reducible refine Kd.C_drewN ?_ _) | (with_reducible refine Kd.C_drew ?_))); (case side2 => exact HC410_1.out); (case side3 => repeat (first | exact HR411_1.out | (with_reducible refine Kd.C_alloc ?_ _) | (with_reducible refine Kd.C_drewN ?_ _) | (with_reducible refine Kd.C_drew ?_))); (case side4 => exact HC411_1.out); rintro e w' ⟨rfl, ⟨nd, rfl⟩⟩; (try first | exact ⟨rfl, _, World.drewN_drewN _ _ _⟩ | exact ⟨rfl, _, Eq.trans (World.drewN_drewN _ _ _) (congrArg (World.drewN _) (Nat.add_assoc _ _ _))⟩))); try go_wp2)
           go_ret
           exact ⟨by first | rfl | (simp; done) | (simp [*]; done), by repeat (first | exact Drawn0.refl _ | apply Drawn0.step)⟩
         ·replace c11 := Bool.eq_false_iff.mpr c11
          subst c11
          have H1 : (some false) = some r := by rw [if_neg (show ¬ (false = true) by decide)] at H; exact H
          clear H
          have H := H1
          clear H1
          obtain rfl := Option.some.inj H
          have p407 : 0 ≤ (x7_2 : Int) := of_decide_eq_true (by first | (with_reducible assumption) | assumption)
          have q407 : x7_2 < (l0.length : Int) := of_decide_eq_true (by first | (with_reducible assumption) | assumption)
          obtain ⟨ad407, A407_0, c407_0, A407_1, c407_1, e407, hx407_0, hx407_1, hl407_0, hi407_0, hl407_1, hi407_1⟩ := at_T95 HR0.out x7_2 p407 q407
          cases e407
          have HR407_0 := Aside0.mk hi407_0
          have HC407_0 := Aside0.mk hl407_0
          clear hi407_0 hl407_0
          have HR407_1 := Aside0.mk hi407_1
          have HC407_1 := Aside0.mk hl407_1
          clear hi407_1 hl407_1
          replace p407 := eq_true p407
          replace q407 := eq_true q407
          have p408 : 0 ≤ (x7_2 : Int) := of_decide_eq_true (by first | (with_reducible assumption) | assumption)
          have q408 : x7_2 < (l1.length : Int) := of_decide_eq_true (by first | (with_reducible assumption) | assumption)
          obtain ⟨ad408, A408_0, c408_0, A408_1, c408_1, e408, hx408_0, hx408_1, hl408_0, hi408_0, hl408_1, hi408_1⟩ := at_T95 HR1.out x7_2 p408 q408
          cases e408
          have HR408_0 := Aside0.mk hi408_0
          have HC408_0 := Aside0.mk hl408_0
          clear hi408_0 hl408_0
          have HR408_1 := Aside0.mk hi408_1
          have HC408_1 := Aside0.mk hl408_1
          clear hi408_1 hl408_1
          replace p408 := eq_true p408
          replace q408 := eq_true q408
          go_wp2_with (first | (go_at_call 24; (with_reducible refine (swardlaw12_same.calls k2 _ _ ((rd_T95 l0 x7_2).f0) _ _ ((rd_T95 l1 x7_2).f0) false _ ?side1 ?side2 ?side3 ?side4 A10.out).mono ?_); (case side1 => repeat (first | exact HR407_0.out | (with_reducible refine Kd.C_alloc ?_ _) | (with_reducible refine Kd.C_drewN ?_ _) | (with_reducible refine Kd.C_drew ?_))); (case side2 => exact HC407_0.out); (case side3 => repeat (first | exact HR408_0.out | (with_reducible refine Kd.C_alloc ?_ _) | (with_reducible refine Kd.C_drewN ?_ _) | (with_reducible refine Kd.C_drew ?_))); (case side4 => exact HC408_0.out); rintro e w' ⟨rfl, ⟨nd, rfl⟩⟩; (try first | exact ⟨rfl, _, World.drewN_drewN _ _ _⟩ | exact ⟨rfl, _, Eq.trans (World.drewN_drewN _ _ _) (congrArg (World.drewN _) (Nat.add_assoc _ _ _))⟩)))
          repeat (go_quiet (first | (go_at_call 24; (with_reducible refine (swardlaw12_same.calls k2 _ _ ((rd_T95 l0 x7_2).f0) _ _ ((rd_T95 l1 x7_2).f0) false _ ?side1 ?side2 ?side3 ?side4 A10.out).mono ?_); (case side1 => repeat (first | exact HR407_0.out | (with_reducible refine Kd.C_alloc ?_ _) | (with_reducible refine Kd.C_drewN ?_ _) | (with_reducible refine Kd.C_drew ?_))); (case side2 => exact HC407_0.out); (case side3 => repeat (first | exact HR408_0.out | (with_reducible refine Kd.C_alloc ?_ _) | (with_reducible refine Kd.C_drewN ?_ _) | (with_reducible refine Kd.C_drew ?_))); (case side4 => exact HC408_0.out); rintro e w' ⟨rfl, ⟨nd, rfl⟩⟩; (try first | exact ⟨rfl, _, World.drewN_drewN _ _ _⟩ | exact ⟨rfl, _, Eq.trans (World.drewN_drewN _ _ _) (congrArg (World.drewN _) (Nat.add_assoc _ _ _))⟩))); try go_wp2)
          go_ret
          exact ⟨by first | rfl | (simp; done) | (simp [*]; done), by repeat (first | exact Drawn0.refl _ | apply Drawn0.step)⟩
        ·rw [if_neg c9] at H
         exact absurd H (by simp)
       ·rw [if_neg c8] at H
        exact absurd H (by simp)
      ·rw [if_neg c7] at H
       have c7b0 : decide (x7_2 < (l0.length : Int)) = false := decide_eq_false c7
       clear c7
       obtain rfl := Option.some.inj H
       go_wp2
       repeat (go_quiet (fail); try go_wp2)
       go_ret
       exact ⟨by first | rfl | (simp; done) | (simp [*]; done), by repeat (first | exact Drawn0.refl _ | apply Drawn0.step)⟩
end Go.Proofs.YtbfedeedicnedaaGreat.PAll
end
section
namespace Go.Proofs.YtbfedeedicnedaaGreat.PAll
open Go.RowKit Go.Proofs.YtbfedeedicnedaaGreatW.PrintWords Go.Proofs.YtbfedeedicnedaaGreatW.PrintLast Go.Proofs.YtbfedeedicnedaaGreatW.PrintMore
attribute [local go_sem] max2_int min2_int max_two min_two max_three min_three max_four min_four
def swardlaw12_A.f  : Option (Int × Int × Int) := some (1, 0, 3)
theorem swardlaw12_A.calls  (r1 : Int) (r2 : Int) (r3 : Int) (w : World) (h : swardlaw12_A.f  = some (r1, r2, r3)) :
    Calls Tryz.prog 50 #[] w fun e w' => e = .returned (.agg #[.int .i64 r1, .int .i64 r2, .int .i64 r3]) ∧ Below w.heap.size w w' := by
  obtain ⟨rfl, rfl, rfl⟩ : 1 = r1 ∧ 0 = r2 ∧ 3 = r3 := by simpa only [swardlaw12_A.f, Option.some.injEq, Prod.mk.injEq] using h
  go_enter Tryz.func50, Tryz.ntmps50
  go_wp2
  exact bodyPost_ret (results_cell_row rfl _ _ w.heap.size 25 #[.int .i64 1, .int .i64 0, .int .i64 3] (0, 0) _ rfl (heap_alloc_new w _) Tryz.underlying25 rfl (by kernel_rfl)) rfl ⟨rfl, (Below.refl _ _).alloc (Nat.le_refl _) _⟩
def swardlaw12_T.f  : Option (Int × Int × Int) := some (3, 3, 3)
theorem swardlaw12_T.calls  (r1 : Int) (r2 : Int) (r3 : Int) (w : World) (h : swardlaw12_T.f  = some (r1, r2, r3)) :
    Calls Tryz.prog 51 #[] w fun e w' => e = .returned (.agg #[.int .i64 r1, .int .i64 r2, .int .i64 r3]) ∧ Below w.heap.size w w' := by
  obtain ⟨rfl, rfl, rfl⟩ : 3 = r1 ∧ 3 = r2 ∧ 3 = r3 := by simpa only [swardlaw12_T.f, Option.some.injEq, Prod.mk.injEq] using h
  go_enter Tryz.func51, Tryz.ntmps51
  go_wp2
  exact bodyPost_ret (results_cell_row rfl _ _ w.heap.size 25 #[.int .i64 3, .int .i64 3, .int .i64 3] (0, 0) _ rfl (heap_alloc_new w _) Tryz.underlying25 rfl (by kernel_rfl)) rfl ⟨rfl, (Below.refl _ _).alloc (Nat.le_refl _) _⟩
def swardlaw12_S.f  : Option (Int × Int × Int) := some (5, 4, 2)
theorem swardlaw12_S.calls  (r1 : Int) (r2 : Int) (r3 : Int) (w : World) (h : swardlaw12_S.f  = some (r1, r2, r3)) :
    Calls Tryz.prog 52 #[] w fun e w' => e = .returned (.agg #[.int .i64 r1, .int .i64 r2, .int .i64 r3]) ∧ Below w.heap.size w w' := by
  obtain ⟨rfl, rfl, rfl⟩ : 5 = r1 ∧ 4 = r2 ∧ 2 = r3 := by simpa only [swardlaw12_S.f, Option.some.injEq, Prod.mk.injEq] using h
  go_enter Tryz.func52, Tryz.ntmps52
  go_wp2
  exact bodyPost_ret (results_cell_row rfl _ _ w.heap.size 25 #[.int .i64 5, .int .i64 4, .int .i64 2] (0, 0) _ rfl (heap_alloc_new w _) Tryz.underlying25 rfl (by kernel_rfl)) rfl ⟨rfl, (Below.refl _ _).alloc (Nat.le_refl _) _⟩
def swardlaw12_None.f  : Option (Int × Int × Int) := some (3, (-1), 0)
theorem swardlaw12_None.calls  (r1 : Int) (r2 : Int) (r3 : Int) (w : World) (h : swardlaw12_None.f  = some (r1, r2, r3)) :
    Calls Tryz.prog 53 #[] w fun e w' => e = .returned (.agg #[.int .i64 r1, .int .i64 r2, .int .i64 r3]) ∧ Below w.heap.size w w' := by
  obtain ⟨rfl, rfl, rfl⟩ : 3 = r1 ∧ (-1) = r2 ∧ 0 = r3 := by simpa only [swardlaw12_None.f, Option.some.injEq, Prod.mk.injEq] using h
  go_enter Tryz.func53, Tryz.ntmps53
  go_wp2
  exact bodyPost_ret (results_cell_row rfl _ _ w.heap.size 25 #[.int .i64 3, .int .i64 (-1), .int .i64 0] (0, 0) _ rfl (heap_alloc_new w _) Tryz.underlying25 rfl (by kernel_rfl)) rfl ⟨rfl, (Below.refl _ _).alloc (Nat.le_refl _) _⟩
end Go.Proofs.YtbfedeedicnedaaGreat.PAll
end
section
namespace Go.Proofs.YtbfedeedicnedaaGreat.PAll
open Go.RowKit Go.Proofs.YtbfedeedicnedaaGreatW.PrintWords Go.Proofs.YtbfedeedicnedaaGreatW.PrintLast Go.Proofs.YtbfedeedicnedaaGreatW.PrintMore
attribute [local go_sem] max2_int min2_int max_two min_two max_three min_three max_four min_four
end Go.Proofs.YtbfedeedicnedaaGreat.PAll
end
section
namespace Go.Proofs.YtbfedeedicnedaaGreat.PAll
open Go.RowKit Go.Proofs.YtbfedeedicnedaaGreatW.PrintWords Go.Proofs.YtbfedeedicnedaaGreatW.PrintLast Go.Proofs.YtbfedeedicnedaaGreatW.PrintMore
attribute [local go_sem] max2_int min2_int max_two min_two max_three min_three max_four min_four
def swardref12_Height.f (l0 : List (S95)) (a1_0 : Int) (a1_1 : Int) (a1_2 : Int) : Option (Int) := if a1_1 = (-1) then (some 0) else (if 0 ≤ a1_1 then (if a1_1 < (l0.length : Int) then (if 1 < (((rd_T95 l0 a1_1).f0).length : Int) then (some (rd ((rd_T95 l0 a1_1).f0) 1)) else (none)) else (none)) else (none))
theorem swardref12_Height.calls (A0 : Option Addr) (c0 : Nat) (l0 : List (S95)) (a1_0 : Int) (a1_1 : Int) (a1_2 : Int) (r : Int) (w : World) (hr0 : Kd.C k95 w A0 l0.length l0) (hc0 : l0.length ≤ c0) (h : swardref12_Height.f l0 a1_0 a1_1 a1_2 = some r) :
    Calls Tryz.prog 46 #[.slice A0 l0.length c0, .agg #[.int .i64 a1_0, .int .i64 a1_1, .int .i64 a1_2]] w fun e w' => e = .returned (.int .i64 r) ∧ Below w.heap.size w w' := by
  have hu25 := Tryz.underlying25
  have HR0 := Aside0.mk hr0
  have HC0 := Aside0.mk hc0
  clear hr0 hc0
  have HB := Aside0.mk (Below.refl w.heap.size w)
  have H : (if a1_1 = (-1) then (some 0) else (if 0 ≤ a1_1 then (if a1_1 < (l0.length : Int) then (if 1 < (((rd_T95 l0 a1_1).f0).length : Int) then (some (rd ((rd_T95 l0 a1_1).f0) 1)) else (none)) else (none)) else (none))) = some r := h
  clear h
  by_cases c3 : a1_1 = (-1)
  · rw [if_pos c3] at H
    have c3b0 : (a1_1 == (-1)) = true := beq_iff_eq.mpr c3
    have c3b1 : (a1_1 != (-1)) = false := bne_eq_false_iff_eq.mpr c3
    clear c3
    obtain rfl := Option.some.inj H
    go_enter Tryz.func46, Tryz.ntmps46
    go_wp2_with (first | ((with_reducible refine gate_dst (N := 3) rfl ?_); refine box_event ?hg (N := 3) ?hd (cs := #[.int .i64 a1_0, .int .i64 a1_1, .int .i64 a1_2]) (t := 25) ?hr ?_; (case hd => rfl); (case hg => rfl); (case hr => first | (go_simp; done) | (go_simp; rfl)); intro gb539 hg w4 hbox hb; have n0_ := Aside0.mk (below_step (by repeat (first | (with_reducible first | exact HB.out | apply below_alloc | apply pw_below_drewN | apply below_drew1) | exact HB.out)) hb); have n1_ := Aside0.mk (hbox); have n2_ := Aside0.mk ((by rw [hg]; exact (below_size (by repeat (first | (with_reducible first | exact HB.out | apply below_alloc | apply pw_below_drewN | apply below_drew1) | exact HB.out))) : w.heap.size ≤ gb539)); have n3_ := Aside0.mk ((by rw [hg]; exact (below_size (by repeat (first | (with_reducible first | exact HB.out | apply below_alloc | apply pw_below_drewN | apply below_drew1) | exact HB.out))) : w.heap.size ≤ gb539)); clear HB; have HB := n0_; have BK539 := n1_; have GW539 := n2_; have GE539 := n3_; clear n0_ n1_ n2_ n3_; clear hb hbox hg; have hcz5_0 : w4.cell? ⟨gb539, 0, none⟩ = some (.int .i64 a1_0) := (blk_cell BK539.out 0).trans rfl; have hcz5_1 : w4.cell? ⟨gb539, 1, none⟩ = some (.int .i64 a1_1) := (blk_cell BK539.out 1).trans rfl; have hcz5_2 : w4.cell? ⟨gb539, 2, none⟩ = some (.int .i64 a1_2) := (blk_cell BK539.out 2).trans rfl; have hfz5_0 := blk_frozen BK539.out 0; have hfz5_1 := blk_frozen BK539.out 1; have hfz5_2 := blk_frozen BK539.out 2))
    go_ret
    exact ⟨by first | rfl | (simp [errW_none, errW_some] <;> rfl) | (simp [*, errW_none, errW_some] <;> rfl), by repeat (first | (with_reducible first | exact HB.out | apply below_alloc | apply pw_below_drewN | apply below_drew1 | refine below_set ?_ GE539.out) | exact HB.out)⟩
  · rw [if_neg c3] at H
    have c3b0 : (a1_1 == (-1)) = false := beq_eq_false_iff_ne.mpr c3
    have c3b1 : (a1_1 != (-1)) = true := bne_iff_ne.mpr c3
    by_cases c6 : 0 ≤ a1_1
    · rw [if_pos c6] at H
      have c6b0 : decide (0 ≤ a1_1) = true := decide_eq_true c6
      clear c6
      by_cases c7 : a1_1 < (l0.length : Int)
      · rw [if_pos c7] at H
        have c7b0 : decide (a1_1 < (l0.length : Int)) = true := decide_eq_true c7
        clear c7
        by_cases c8 : 1 < (((rd_T95 l0 a1_1).f0).length : Int)
        · rw [if_pos c8] at H
          have c8b0 : decide (1 < (((rd_T95 l0 a1_1).f0).length : Int)) = true := decide_eq_true c8
          have c8b1 : decide (1 < ((rd_T95 l0 a1_1).f0).length) = true := decide_eq_true (by omega)
          clear c8
          obtain rfl := Option.some.inj H
          go_enter Tryz.func46, Tryz.ntmps46
          go_wp2_with (first | ((with_reducible refine gate_dst (N := 3) rfl ?_); refine box_event ?hg (N := 3) ?hd (cs := #[.int .i64 a1_0, .int .i64 a1_1, .int .i64 a1_2]) (t := 25) ?hr ?_; (case hd => rfl); (case hg => rfl); (case hr => first | (go_simp; done) | (go_simp; rfl)); intro gb539 hg w9 hbox hb; have n0_ := Aside0.mk (below_step (by repeat (first | (with_reducible first | exact HB.out | apply below_alloc | apply pw_below_drewN | apply below_drew1) | exact HB.out)) hb); have n1_ := Aside0.mk (hbox); have n2_ := Aside0.mk ((by rw [hg]; exact (below_size (by repeat (first | (with_reducible first | exact HB.out | apply below_alloc | apply pw_below_drewN | apply below_drew1) | exact HB.out))) : w.heap.size ≤ gb539)); have n3_ := Aside0.mk ((by rw [hg]; exact (below_size (by repeat (first | (with_reducible first | exact HB.out | apply below_alloc | apply pw_below_drewN | apply below_drew1) | exact HB.out))) : w.heap.size ≤ gb539)); clear HB; have HB := n0_; have BK539 := n1_; have GW539 := n2_; have GE539 := n3_; clear n0_ n1_ n2_ n3_; clear hb hbox hg; have hcz10_0 : w9.cell? ⟨gb539, 0, none⟩ = some (.int .i64 a1_0) := (blk_cell BK539.out 0).trans rfl; have hcz10_1 : w9.cell? ⟨gb539, 1, none⟩ = some (.int .i64 a1_1) := (blk_cell BK539.out 1).trans rfl; have hcz10_2 : w9.cell? ⟨gb539, 2, none⟩ = some (.int .i64 a1_2) := (blk_cell BK539.out 2).trans rfl; have hfz10_0 := blk_frozen BK539.out 0; have hfz10_1 := blk_frozen BK539.out 1; have hfz10_2 := blk_frozen BK539.out 2; have p540 : 0 ≤ (a1_1 : Int) := of_decide_eq_true (by first | (with_reducible assumption) | assumption); have q540 : a1_1 < (l0.length : Int) := of_decide_eq_true (by first | (with_reducible assumption) | assumption); obtain ⟨ad540, A540_0, c540_0, A540_1, c540_1, e540, hx540_0, hx540_1, hl540_0, hi540_0, hl540_1, hi540_1⟩ := at_T95 HR0.out a1_1 p540 q540; cases e540; replace hx540_0 := (HB.out.cell (World.block_lt_of_cell? w _ hx540_0)).trans hx540_0; replace hx540_1 := (HB.out.cell (World.block_lt_of_cell? w _ hx540_1)).trans hx540_1; have HR540_0 := Aside0.mk hi540_0; have HC540_0 := Aside0.mk hl540_0; clear hi540_0 hl540_0; have HR540_1 := Aside0.mk hi540_1; have HC540_1 := Aside0.mk hl540_1; clear hi540_1 hl540_1; replace p540 := eq_true p540; replace q540 := eq_true q540; have p541 : 0 ≤ (1 : Int) := (by omega); have q541 : 1 < (((rd_T95 l0 a1_1).f0).length : Int) := of_decide_eq_true (by first | (with_reducible assumption) | assumption); obtain ⟨ad541, e541, hx541_0⟩ := Kd.at_int HR540_0.out 1 p541 q541; cases e541; (try simp only [show (1 : Int).toNat = 1 from rfl, Nat.reduceMul, Nat.reduceEqDiff, Go.Addr.add, ↓reduceIte] at hx541_0); have qi541 : (1 < ((rd_T95 l0 a1_1).f0).length) = True := eq_true (by omega); (try rw [show ((1 : Int)).toNat = 1 from rfl] at hx541_0); replace hx541_0 := (HB.out.cell (World.block_lt_of_cell? w _ hx541_0)).trans hx541_0; replace p541 := eq_true p541; replace q541 := eq_true q541))
          go_ret
          exact ⟨by first | rfl | (simp [errW_none, errW_some] <;> rfl) | (simp [*, errW_none, errW_some] <;> rfl), by repeat (first | (with_reducible first | exact HB.out | apply below_alloc | apply pw_below_drewN | apply below_drew1 | refine below_set ?_ GE539.out) | exact HB.out)⟩
        · rw [if_neg c8] at H
          exact absurd H (by simp)
      · rw [if_neg c7] at H
        exact absurd H (by simp)
    · rw [if_neg c6] at H
      exact absurd H (by simp)
end Go.Proofs.YtbfedeedicnedaaGreat.PAll
end
