/-
  Texts of this claim: ShL.
-/
import Derived.Test.YtbfedeedicnedaaGreatWb05

section
set_option linter.unusedVariables false
set_option linter.unusedSimpArgs false
namespace Go.Proofs.YtbfedeedicnedaaGreat
open Go.RowKit
open Go.Proofs.YtbfedeedicnedaaGreatW.PrintWords
namespace Sh
def prev (l : List Int) (i : Nat) : Int := if i = 0 then -1 else gi l (i - 1)
theorem drop_at' (l : List Int) (i : Nat) (h : i < l.length) : l.drop i = gi l i :: l.drop (i + 1) := by
  rw [List.drop_eq_getElem_cons h]
  unfold gi
  rw [List.getD_eq_getElem?_getD, List.getElem?_eq_getElem h]
  rfl
theorem rising_at (l : List Int) (i : Nat) (h : i < l.length) : risingFrom (prev l i) (l.drop i) = (el (gi l i) && (decide (prev l i < gi l i) && risingFrom (prev l (i + 1)) (l.drop (i + 1)))) := by
  rw [drop_at' l i h]
  rfl
theorem el_lt {x : Int} (h : el x = true) : -1 < x := by
  unfold el at h
  simp only [Bool.and_eq_true, decide_eq_true_eq] at h
  omega
end Sh
theorem element_at {w : World} (x : Int) {b : Bool} (h : Sh.el x = b) : Calls Tryz.prog 75 #[.int .i64 x] w fun e w' => e = .returned (.bool b) ∧ w' = w := by
  subst h
  exact element_calls x w
theorem back_one (k j : Nat) (h : k ≤ 1000000) (hj : j + 1 = k) : IntKind.i64.wrap ((k : Int) - 1) = (j : Int) := by
  rw [IntWalk.i64_in _ (by omega)]
  omega
set_option maxRecDepth 100000 in
set_option maxHeartbeats 4000000 in
theorem alist_calls (H : Sh.Hp) (root : Int) (A : Option Addr) (c : Nat) (w : World) (hC : Nodes w A H) (hbig : ∀ p ∈ H, p.1.length ≤ 1000000) :
    Calls Tryz.prog 163 #[.agg #[], .slice A H.length c, .int .i64 root] w fun e w' => Got w.heap.size w' e (Sh.listArray H root) ∧ Below w.heap.size w w' := by
  have hB0 := Lib.hid (show Below w.heap.size w (w.alloc (.cells #[] 154)) from (Below.refl _ _).alloc (Nat.le_refl _) _)
  unfold Sh.listArray
  by_cases ht : Sh.there H root = true
  case neg =>
    have ht' : Sh.there H root = false := by simpa using ht
    have hth := Lib.hid (fun W => there_at (w := W) (A := A) (c := c) ht')
    rw [ht']
    simp only [Bool.false_and, Bool.false_eq_true, if_false]
    clear ht ht'
    go_enter Tryz.func163, Tryz.ntmps163
    go_wp2_with fail
    refine (hth.out _).mono ?_
    rintro e w1 ⟨rfl, rfl⟩
    go_wp2
    go_ret2
    exact ⟨⟨_, rfl, Kd.R_nil _ _ _ _ _⟩, hB0.out⟩
  case pos =>
    have hth := Lib.hid (fun W => there_at (w := W) (A := A) (c := c) ht)
    obtain ⟨hr0, hr1⟩ := Sh.there_iff.1 ht
    have hmem : Sh.nd H root ∈ H := List.mem_of_getElem? (Sh.nd_there ht)
    have hsm := hbig _ hmem
    rw [ht, Bool.true_and]
    have hC1 := Kd.C_alloc hC (.cells #[] 154)
    obtain ⟨ad, A0, c0, A1, c1, rfl, d0, d1, l0, g0, l1, g1⟩ := Nodes.at hC1 root hr0 hr1
    obtain ⟨i, rfl⟩ := Int.eq_ofNat_of_zero_le hr0
    simp only [Int.toNat_natCast] at d0 d1
    generalize (Sh.nd H (i : Int)).2.length = n1 at *
    generalize (Sh.nd H (i : Int)).1 = l at *
    by_cases h1 : n1 = 0
    case neg =>
      have hb : (n1 == 0) = false := by rw [beq_eq_false_iff_ne]; exact h1
      rw [hb]
      simp only [Bool.false_and, Bool.false_eq_true, if_false]
      clear hb hC hC1 g0 g1 ht
      go_enter Tryz.func163, Tryz.ntmps163
      go_wp2_with fail
      refine (hth.out _).mono ?_
      rintro e w1 ⟨rfl, rfl⟩
      go_wp2
      go_ret2
      exact ⟨⟨_, rfl, Kd.R_nil _ _ _ _ _⟩, hB0.out⟩
    case pos =>
      subst h1
      simp only [BEq.rfl, Bool.true_and]
      have hg0 := Lib.hid g0
      obtain ⟨T, hT⟩ : ∃ T, T = Sh.rising l := ⟨_, rfl⟩
      rw [← hT]
      obtain ⟨R, hR⟩ : ∃ R, R = (if T = true then some l else none) := ⟨_, rfl⟩
      rw [← hR]
      replace hR := Lib.hid hR
      have hTh := Lib.hid hT
      obtain ⟨n, hn⟩ : ∃ n, n = l.length := ⟨_, rfl⟩
      rw [← hn] at d0 hg0 hsm
      have hnh := Lib.hid hn
      clear hC hC1 g0 g1 ht hT hn
      go_enter Tryz.func163, Tryz.ntmps163
      go_wp2_with fail
      refine (hth.out _).mono ?_
      rintro e w1 ⟨rfl, rfl⟩
      go_wp2
      go_loopg [31] n (fun g v31 wr => ∃ k : Nat, v31 = .int .i64 k ∧ k ≤ n ∧ Hid (g + k = n) ∧ wr = w.alloc (.cells #[] 154) ∧ Hid (T = Sh.risingFrom (Sh.prev l k) (l.drop k)))
      case atStart => exact ⟨0, rfl, Nat.zero_le _, Lib.hid rfl, rfl, Lib.hid hTh.out⟩
      case round =>
        obtain ⟨k, rfl, hk, hg, rfl, hTk⟩ := hrel
        by_cases hlt : k < n
        · obtain ⟨ad0, rfl, e0⟩ := at_int hg0.out k (by omega) (by omega)
          rw [Int.toNat_natCast] at e0
          have hst := Lib.hid (Sh.rising_at l k (by have := hnh.out; omega))
          obtain ⟨x, hx⟩ : ∃ x, x = Sh.gi l k := ⟨_, rfl⟩
          rw [← hx] at e0 hst
          cases he : Sh.el x
          · have hel := Lib.hid (fun W => element_at (w := W) x he)
            have hF : Hid (T = false) := Lib.hid (by rw [hTk.out, hst.out, he]; rfl)
            clear hx he
            go_wp2_with fail
            refine (hel.out _).mono ?_
            rintro e w1 ⟨rfl, rfl⟩
            go_wp2
            obtain rfl : R = none := by rw [hR.out, hF.out]; rfl
            go_ret2
            exact ⟨⟨_, rfl, Kd.R_nil _ _ _ _ _⟩, hB0.out⟩
          · have hel := Lib.hid (fun W => element_at (w := W) x he)
            by_cases hk0 : k = 0
            · subst hk0
              have e0' : (w.alloc (.cells #[] 154)).cell? ad0 = some (.int .i64 x) := e0
              have hst2 : Hid (T = Sh.risingFrom (Sh.prev l 1) (l.drop 1)) := Lib.hid (by rw [hTk.out, hst.out, he, decide_eq_true (show Sh.prev l 0 < x from Sh.el_lt he)]; rfl)
              clear hx he
              go_wp2_with fail
              refine (hel.out _).mono ?_
              rintro e w1 ⟨rfl, rfl⟩
              go_wp2
              go_roundg (n - 1)
              case measure => have := hg.out; omega
              case rel => exact ⟨1, by go_num, by omega, Lib.hid (by omega), rfl, hst2⟩
            · obtain ⟨j, hj⟩ : ∃ j, j + 1 = k := ⟨k - 1, by omega⟩
              have hkp : 0 < k := by omega
              obtain ⟨ad0', e', e1⟩ := at_int hg0.out j (by omega) (by omega)
              cases e'
              rw [Int.toNat_natCast] at e1
              have hp : Sh.prev l k = Sh.gi l j := by rw [← hj]; rfl
              obtain ⟨y, hy⟩ : ∃ y, y = Sh.gi l j := ⟨_, rfl⟩
              rw [← hy] at e1 hp
              have hbk := back_one k j (by omega) hj
              have hjn : j < n := by omega
              replace hj := Lib.hid hj
              by_cases hxy : x ≤ y
              · have hF : Hid (T = false) := Lib.hid (by rw [hTk.out, hst.out, he, hp, decide_eq_false (by omega)]; rfl)
                clear hx hy he hp
                go_wp2_with fail
                refine (hel.out _).mono ?_
                rintro e w1 ⟨rfl, rfl⟩
                go_wp2
                obtain rfl : R = none := by rw [hR.out, hF.out]; rfl
                go_ret2
                exact ⟨⟨_, rfl, Kd.R_nil _ _ _ _ _⟩, hB0.out⟩
              · have hst2 : Hid (T = Sh.risingFrom (Sh.prev l (k + 1)) (l.drop (k + 1))) := Lib.hid (by rw [hTk.out, hst.out, he, hp, decide_eq_true (show y < x by omega)]; rfl)
                clear hx hy he hp
                go_wp2_with fail
                refine (hel.out _).mono ?_
                rintro e w1 ⟨rfl, rfl⟩
                go_wp2
                go_roundg (n - (k + 1))
                case measure => have := hg.out; omega
                case rel => exact ⟨k + 1, by go_num, by omega, Lib.hid (by omega), rfl, hst2⟩
        · have hTt : Hid (T = true) := Lib.hid (by rw [hTk.out, List.drop_of_length_le (by have := hnh.out; omega)]; rfl)
          have hcl := Lib.hid (clone_calls A0 c0 l (w.alloc (.cells #[] 154)) (by have := hg0.out; rwa [hnh.out] at this) (by have := hnh.out; omega))
          rw [← hnh.out] at hcl
          go_wp2_with fail
          refine (hcl.out).mono ?_
          rintro e w1 ⟨v, rfl, ho, hb⟩
          have hB1 := Lib.hid (Below.trans hB0.out (hb.mono (by rw [World.size_alloc]; omega)))
          have ho1 := Lib.hid (Kd.R_lower ho (show w.heap.size ≤ _ by rw [World.size_alloc]; omega))
          clear ho hb
          go_wp2
          obtain rfl : R = some l := by rw [hR.out, hTt.out]; rfl
          go_ret2
          exact ⟨⟨_, rfl, ho1.out⟩, hB1.out⟩
end Go.Proofs.YtbfedeedicnedaaGreat
end
