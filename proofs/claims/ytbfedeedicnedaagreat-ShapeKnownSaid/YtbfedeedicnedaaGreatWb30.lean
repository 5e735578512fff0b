/-
  Texts of this claim: ShBG, ShBH, ShBI.
-/
import Derived.Test.YtbfedeedicnedaaGreatWb14
import Derived.Test.YtbfedeedicnedaaGreatWb28
import Derived.Deep.QuietTactic
import Derived.BigQuiet

section
set_option linter.unusedVariables false
set_option linter.unusedSimpArgs false
namespace Go.Proofs.YtbfedeedicnedaaGreat
open Go.RowKit
open Go.Proofs.YtbfedeedicnedaaGreatW.PrintWords
def ElGot (w' : World) (e : Ending) (r : Option (List Int)) : Prop := ∃ A1 c1 l, e = .returned (.tuple #[.slice A1 (l : List Int).length c1, .bool r.isSome]) ∧ l.length ≤ c1 ∧ Kd.C kI w' A1 l.length l ∧ ∀ m, r = some m → l = m
theorem C_nil (w : World) : Kd.C kI w none 0 ([] : List Int) := ⟨rfl, by omega, fun h => by omega⟩
theorem ElGot.nil (w' : World) : ElGot w' (.returned (.tuple #[.slice none 0 0, .bool false])) none := ⟨none, 0, [], rfl, Nat.le_refl _, C_nil w', fun m h => by cases h⟩
theorem slotted_calls (n : Nat) {b : Bool} (h : Sh.pow2 n = b) (w : World) : Calls Tryz.prog 105 #[.int .i64 n] w fun e w' => e = .returned (.bool b) ∧ Drawn0 w w' := by
  subst h
  obtain ⟨k, hk⟩ := (PAll.ev_slotted n).rounds
  exact PAll.swardref12_slotted.calls k n _ w hk
theorem Listed_calls (l : List Int) (x : Int) (A : Option Addr) (c : Nat) (w : World) (hC : Kd.C kI w A l.length l) (hc : l.length ≤ c) (hl : l.length ≤ 1000000) {b : Bool} (h : l.contains x = b) : Calls Tryz.prog 25 #[.slice A l.length c, .int .i64 x] w fun e w' => e = .returned (.bool b) ∧ Drawn0 w w' := by
  subst h
  obtain ⟨k, hk⟩ := (PAll.ev_Listed l x hl).rounds
  exact PAll.swardref12_Listed.calls k A c l x _ w hC hc hk
theorem way_calls (t : List Int) (x : Int) (A : Option Addr) (c : Nat) (w : World) (hC : Kd.C kI w A t.length t) (hc : t.length ≤ c) (hl : t.length ≤ 1000000) (hpos : 0 < t.length) (hx : 0 ≤ x) (hx1 : x ≤ 1000000) :
    Calls Tryz.prog 71 #[.slice A t.length c, .int .i64 x] w fun e w' => GotV w' e (PAll.wayL t x) ∧ Below w.heap.size w w' := by
  obtain ⟨k, hk⟩ := (PAll.ev_way t x hl hpos hx hx1).rounds
  refine (PAll.swardref12_way.calls k A c t x _ w hC hc hk).mono ?_
  rintro e w' ⟨v, rfl, ho, hB⟩
  exact ⟨Ints.gotV ho, hB⟩
theorem wayL_len (t : List Int) (x : Int) : (PAll.wayL t x).length = Sh.place t x + 1 := by unfold PAll.wayL; rw [List.length_map, List.length_range]
theorem wayL_last (t : List Int) (x : Int) : Sh.gi (PAll.wayL t x) (Sh.place t x) = (Sh.lastW t x : Int) := by
  unfold PAll.wayL Sh.gi Sh.lastW
  rw [List.getD_eq_getElem?_getD, List.getElem?_map, List.getElem?_range (by omega)]
  rfl
theorem place_lt (t : List Int) (x : Int) (hpos : 0 < t.length) : Sh.place t x < t.length := by
  have := (Sh.placeF_spec t x (t.length - 1) 0).2.1
  have e : Sh.placeF t x (t.length - 1) 0 = Sh.place t x := rfl
  omega
structure BoxAt (W2 : World) (g5 : Nat) (ad0 : Addr) (n c0 : Nat) (v1 : Value) (t : List Int) : Prop where
  blk : W2.heap[g5]? = some (.cells #[.slice (some ad0) n c0, v1] 95 (0, 0))
  nums : Kd.C kI W2 (some ad0) n t
theorem BoxAt.cell {W2 W : World} {g5 : Nat} {ad0 : Addr} {n c0 : Nat} {v1 : Value} {t : List Int} (h : BoxAt W2 g5 ad0 n c0 v1 t) (hB : Below W2.heap.size W2 W) : W.cell? ⟨g5, 0, none⟩ = some (.slice (some ad0) n c0) := by
  rw [blk_cell (blk_below h.blk hB)]
  rfl
theorem BoxAt.get {W2 W : World} {g5 : Nat} {ad0 : Addr} {n c0 : Nat} {v1 : Value} {t : List Int} (h : BoxAt W2 g5 ad0 n c0 v1 t) (hB : Below W2.heap.size W2 W) (i : Nat) (hi : i < n) : W.cell? (ad0.add i) = some (.int .i64 (Sh.gi t i)) := by
  obtain ⟨ad, e, h1⟩ := at_int (Kd.C_below h.nums hB) (i : Int) (by omega) (by omega)
  cases e
  rw [Int.toNat_natCast] at h1
  exact h1
set_option maxRecDepth 100000 in
set_option maxHeartbeats 8000000 in
theorem rhash_calls (H : Sh.Hp) (root : Int) (A : Option Addr) (c : Nat) (w : World) (hC : Nodes w A H) (hc : H.length ≤ c) (hroot : Sh.there H root = true → (Sh.nd H root).1.length ≤ 1000000) :
    Calls Tryz.prog 68 #[.slice A H.length c, .int .i64 root] w fun e w' => ElGot w' e (Sh.listHash H root) ∧ Below w.heap.size w w' := by
  have hnc := Lib.hid (rnode_calls H root A c w hC hc)
  obtain ⟨R, hR⟩ : ∃ R, R = Sh.listHash H root := ⟨_, rfl⟩
  rw [← hR]
  rw [Sh.hashR_eq] at hR
  cases ht : Sh.there H root
  case false =>
    rw [if_neg (by rw [ht]; simp)] at hR
    subst hR
    clear hC
    go_enter Tryz.func68, Tryz.ntmps68
    go_wp2_with fail
    refine (hnc.out).mono ?_
    rintro e w1 ⟨⟨A0, c0, A1, c1, l0, l1, rfl, -, -, h1, -, h2⟩, hB1⟩
    rw [ht]
    have hB2 := Lib.hid (hB1.alloc hB1.size (.cells #[.slice A0 l0.length c0, .slice A1 l1.length c1] 95))
    clear h1 h2 hB1
    go_wp2
    go_ret2
    exact ⟨ElGot.nil _, hB2.out⟩
  case true =>
    have htt := Lib.hid ht
    have hsm := hroot ht
    clear hroot
    obtain ⟨t, htN⟩ : ∃ t, t = (Sh.nd H root).1 := ⟨_, rfl⟩
    rw [← htN] at hR hsm
    by_cases hk : (Sh.nd H root).2 = []
    case neg =>
      rw [if_neg (fun h => hk h.2)] at hR
      subst hR
      have hkl : 0 < (Sh.nd H root).2.length := List.length_pos_iff.mpr hk
      have hkd : decide (0 < ((Sh.nd H root).2.length : Int)) = true := decide_eq_true (by omega)
      have hkd2 : decide (0 < (Sh.nd H root).2.length) = true := decide_eq_true hkl
      clear hC hsm ht
      go_enter Tryz.func68, Tryz.ntmps68
      go_wp2_with fail
      refine (hnc.out).mono ?_
      rintro e w1 ⟨⟨A0, c0, A1, c1, l0, l1, rfl, hl, -, h1, -, h2⟩, hB1⟩
      obtain ⟨rfl, rfl⟩ := hl htt.out
      rw [htt.out]
      have hB2 := Lib.hid (hB1.alloc hB1.size (.cells #[.slice A0 (Sh.nd H root).1.length c0, .slice A1 (Sh.nd H root).2.length c1] 95))
      clear h1 h2 hB1
      generalize (Sh.nd H root).2.length = n1 at *
      go_wp2
      go_ret2
      exact ⟨ElGot.nil _, hB2.out⟩
    case pos =>
      rw [if_pos ⟨ht, hk⟩] at hR
      have hkh := Lib.hid hk
      have htNh := Lib.hid htN
      unfold Sh.hashR at hR
      by_cases hp : Sh.pow2 t.length = true
      case neg =>
        rw [if_neg hp] at hR
        subst hR
        have hp' : Sh.pow2 t.length = false := by simpa using hp
        have hsl := Lib.hid (fun W => slotted_calls t.length hp' W)
        obtain ⟨n, hn⟩ : ∃ n, n = t.length := ⟨_, rfl⟩
        rw [← hn] at hsl
        replace hn := Lib.hid hn
        clear hC hsm ht hk htN hp hp'
        go_enter Tryz.func68, Tryz.ntmps68
        go_wp2_with fail
        refine (hnc.out).mono ?_
        rintro e w1 ⟨⟨A0, c0, A1, c1, l0, l1, rfl, hl, -, h1, -, h2⟩, hB1⟩
        obtain ⟨rfl, rfl⟩ : l0 = t ∧ l1 = [] := by have := hl htt.out; exact ⟨this.1.trans htNh.out.symm, this.2.trans hkh.out⟩
        rw [htt.out, ← hn.out]
        have hB2 := Lib.hid (hB1.alloc hB1.size (.cells #[.slice A0 n c0, .slice A1 ([] : List Int).length c1] 95))
        clear h1 h2 hB1 hl
        go_wp2_with fail
        refine (hsl.out _).mono ?_
        rintro e w2 ⟨rfl, nd, rfl⟩
        go_wp2
        go_ret2
        exact ⟨ElGot.nil _, pw_below_drewN hB2.out nd⟩
      case pos =>
        rw [if_pos hp] at hR
        have hsl := Lib.hid (fun W => slotted_calls t.length hp W)
        have hp8 := (Sh.pow2_pos hp).1
        have hp9 := (Sh.pow2_pos hp).2
        obtain ⟨n, hn⟩ : ∃ n, n = t.length := ⟨_, rfl⟩
        rw [← hn] at hsl hsm hp8 hp9 hR
        obtain ⟨D, hD⟩ : ∃ D, D = Sh.hashD t n 0 [] 0 := ⟨_, rfl⟩
        rw [← hD] at hR
        replace hR := Lib.hid hR
        replace hD := Lib.hid hD
        replace hn := Lib.hid hn
        clear hC ht hk htN hp
        go_enter Tryz.func68, Tryz.ntmps68
        go_wp2_with fail
        refine (hnc.out).mono ?_
        rintro e w1 ⟨⟨A0, c0, A1, c1, l0, l1, rfl, hl, hc0, h1, -, h2⟩, hB1⟩
        obtain ⟨rfl, rfl⟩ : l0 = t ∧ l1 = [] := by have := hl htt.out; exact ⟨this.1.trans htNh.out.symm, this.2.trans hkh.out⟩
        rw [htt.out, ← hn.out]
        rw [← hn.out] at h1 hc0
        obtain ⟨W2, hW2⟩ : ∃ W2, W2 = w1.alloc (.cells #[.slice A0 n c0, .slice A1 0 c1] 95) := ⟨_, rfl⟩
        obtain ⟨ad0, rfl, -⟩ := at_int h1 0 (by omega) (by omega)
        have hB2 := Lib.hid (show Below w.heap.size w W2 by rw [hW2]; exact hB1.alloc hB1.size _)
        obtain ⟨g5, hg5⟩ : ∃ g5, g5 = w1.heap.size := ⟨_, rfl⟩
        have hbox := Lib.hid (show BoxAt W2 g5 ad0 n c0 (.slice A1 0 c1) l0 from ⟨by rw [hW2, hg5]; exact heap_alloc_new w1 _, by rw [hW2]; exact Kd.C_alloc h1 _⟩)
        clear h1 h2 hB1 hl
        go_wp2_with fail
        refine (hsl.out _).mono ?_
        rintro e w2 ⟨rfl, nd, rfl⟩
        rw [← hW2, ← hg5]
        replace hg5 := Lib.hid hg5
        replace hW2 := Lib.hid hW2
        go_wp2
        have hw0 := Lib.hid (show Below W2.heap.size W2 (W2.drewN nd) from pw_below_drewN (Below.refl _ _) nd)
        have hcall := Lib.hid (fun (W : World) (hW : Below W2.heap.size W2 W) (x : Int) (hx : 0 ≤ x) (hx1 : x ≤ 1000000) => way_calls l0 x (some ad0) c0 W (by rw [← hn.out]; exact Kd.C_below hbox.out.nums hW) (by rw [← hn.out]; exact hc0) (by rw [← hn.out]; exact hsm) (by rw [← hn.out]; omega) hx hx1)
        rw [← hn.out] at hcall
        go_loopg [8, 9, 10] n (fun g v8 v9 v10 wr => ∃ (i many : Nat) (out : List Int) (A8 : Option Addr) (c8 : Nat), v10 = .int .i64 i ∧ i ≤ n ∧ Hid (g + i = n) ∧ v8 = .slice A8 out.length c8 ∧ Hid (out.length ≤ c8) ∧ Hid (Kd.C kI wr A8 out.length out) ∧ v9 = .int .i64 many ∧ many ≤ i ∧ out.length ≤ i ∧ Hid (D = Sh.hashD l0 (n - i) i out many) ∧ Hid (Below W2.heap.size W2 wr))
        case atStart => exact ⟨0, 0, [], none, 0, rfl, Nat.zero_le _, Lib.hid rfl, rfl, Lib.hid (Nat.le_refl _), Lib.hid (C_nil _), rfl, Nat.le_refl _, Nat.le_refl _, hD, hw0⟩
        case round =>
          obtain ⟨i, many, out, A8, c8, rfl, hi, hg, rfl, hc8, hC8, rfl, hmi, hoi, hDi, hBr⟩ := hrel
          obtain ⟨cv, hcv⟩ : ∃ cv : Value, cv = .slice (some ad0) n c0 := ⟨_, rfl⟩
          have k0 : ∀ W, Below W2.heap.size W2 W → W.cell? ⟨g5, 0, none⟩ = some (.slice (some ad0) n c0) := fun W hW => hbox.out.cell hW
          have hk0 := k0 _ hBr.out
          clear hcv
          by_cases hlt : i < n
          case neg =>
            obtain rfl : i = n := by omega
            have hDe : Hid (D = some (out, many)) := Lib.hid (by rw [hDi.out, Nat.sub_self]; rfl)
            have hw2m : IntKind.i64.wrap (2 * (many : Int)) = 2 * (many : Int) := IntWalk.i64_in _ (by omega)
            have hfin : Hid (R = if 2 * many ≤ i then some out else none) := Lib.hid (by
              have h9 := hR.out
              rw [hDe.out] at h9
              exact h9)
            have hBf := Lib.hid (fun n => (hB2.out.trans ((pw_below_drewN hBr.out n).mono (hB2.out.size)) : Below w.heap.size w (wr.drewN n)))
            have hC8n := Lib.hid (fun n => (Kd.C_drewN hC8.out n : Kd.C kI (wr.drewN n) A8 out.length out))
            by_cases hm2 : 2 * (many : Int) ≤ (i : Int)
            · obtain rfl : R = some out := by rw [hfin.out]; exact if_pos (by omega)
              have hmb : decide (2 * (many : Int) ≤ (i : Int)) = true := decide_eq_true hm2
              clear hm2 k0 hDi hD hR
              go_wp2
              go_quiet (fail)
              go_wp2
              go_ret2
              exact ⟨⟨A8, c8, out, rfl, hc8.out, hC8n.out _, fun m hm => Option.some.inj hm⟩, hBf.out _⟩
            · obtain rfl : R = none := by rw [hfin.out]; exact if_neg (by omega)
              have hmb : decide (2 * (many : Int) ≤ (i : Int)) = false := decide_eq_false hm2
              clear hm2 k0 hDi hD hR
              go_wp2
              go_quiet (fail)
              go_wp2
              go_ret2
              exact ⟨⟨A8, c8, out, rfl, hc8.out, hC8n.out _, fun m hm => by cases hm⟩, hBf.out _⟩
          case pos =>
            have hDg : Hid (D = Sh.hashD l0 (n - (i + 1) + 1) i out many) := Lib.hid (by rw [hDi.out]; congr 1; omega)
            have hst : ∀ g, Sh.hashD l0 (g + 1) i out many = if ¬ (-1 ≤ Sh.gi l0 i ∧ Sh.gi l0 i ≤ 1023) then none else if Sh.gi l0 i = -1 then Sh.hashD l0 g (i + 1) out many else if Sh.lastW l0 (Sh.gi l0 i) ≠ i ∨ out.contains (Sh.gi l0 i) = true then none else Sh.hashD l0 g (i + 1) (Sh.withF out (Sh.gi l0 i)) (many + 1) := fun g => rfl
            have hDs := hDg.out
            rw [hst] at hDs
            have e0 := hbox.out.get hBr.out i hlt
            obtain ⟨x, hx⟩ : ∃ x, x = Sh.gi l0 i := ⟨_, rfl⟩
            rw [← hx] at hDs e0
            replace hDs := Lib.hid hDs
            replace hx := Lib.hid hx
            clear hst hDg hDi hD
            have hBw := Lib.hid (hB2.out.trans (hBr.out.mono hB2.out.size))
            by_cases hin : -1 ≤ x ∧ x ≤ 1023
            case neg =>
              have hDn : Hid (D = none) := Lib.hid (by rw [hDs.out]; exact if_pos hin)
              obtain rfl : R = none := by
                have h9 := hR.out
                rw [hDn.out] at h9
                exact h9
              have hic := Lib.hid (fun W => in_calls x (-1) 1023 (b := false) (by rw [Bool.and_eq_false_iff, decide_eq_false_iff_not, decide_eq_false_iff_not]; omega) W)
              clear hin k0 hDs
              go_wp2_with fail
              refine (hic.out _).mono ?_
              rintro e w3 ⟨rfl, rfl⟩
              go_wp2
              go_ret2
              exact ⟨ElGot.nil _, hBw.out⟩
            case pos =>
              have hic := Lib.hid (fun W => in_calls x (-1) 1023 (b := true) (by rw [decide_eq_true hin.1, decide_eq_true hin.2]; rfl) W)
              replace hDs := Lib.hid (hDs.out.trans (if_neg (fun h => h hin)))
              by_cases hx1 : x = -1
              case pos =>
                have hD2 : Hid (D = Sh.hashD l0 (n - (i + 1)) (i + 1) out many) := Lib.hid (by rw [hDs.out]; exact if_pos hx1)
                have hxb : (x == -1) = true := beq_iff_eq.mpr hx1
                clear hin k0 hDs hx1
                go_wp2_with fail
                refine (hic.out _).mono ?_
                rintro e w3 ⟨rfl, rfl⟩
                go_wp2
                go_roundg (n - (i + 1))
                case measure => have := hg.out; omega
                case rel => exact ⟨i + 1, many, out, A8, c8, by go_num, by omega, Lib.hid (by omega), rfl, hc8, hC8, rfl, by omega, by omega, hD2, hBr⟩
              case neg =>
                replace hDs := Lib.hid (hDs.out.trans (if_neg hx1))
                have hxb : (x == -1) = false := beq_eq_false_iff_ne.mpr hx1
                obtain ⟨hin0, hin1⟩ := hin
                have hx0 : 0 ≤ x := by omega
                have hBrd := Lib.hid (show Below W2.heap.size W2 wr.drew from hBr.out.drew)
                have hwc := Lib.hid (fun (W : World) (hW : Below W2.heap.size W2 W) => hcall.out W hW x hx0 (by omega))
                obtain ⟨q, hq⟩ : ∃ q, q = Sh.lastW l0 x := ⟨_, rfl⟩
                have hqg : Hid (Sh.gi (PAll.wayL l0 x) (Sh.place l0 x) = (q : Int)) := Lib.hid (by rw [hq]; exact wayL_last l0 x)
                have hwl : Hid ((PAll.wayL l0 x).length = Sh.place l0 x + 1) := Lib.hid (wayL_len l0 x)
                have hPl : Sh.place l0 x < n := by rw [hn.out]; exact place_lt l0 x (by rw [← hn.out]; omega)
                rw [← hq] at hDs
                replace hq := Lib.hid hq
                obtain ⟨P, hP⟩ : ∃ P, P = Sh.place l0 x := ⟨_, rfl⟩
                rw [← hP] at hqg hwl hPl
                replace hP := Lib.hid hP
                obtain ⟨V, hV⟩ : ∃ V, V = PAll.wayL l0 x := ⟨_, rfl⟩
                rw [← hV] at hqg hwl hwc
                replace hV := Lib.hid hV
                have hkk := Lib.hid (fun (W : World) (hW : Below W2.heap.size W2 W) => (⟨hW, k0 W hW, hbox.out.get hW i hlt⟩ : Below W2.heap.size W2 W ∧ W.cell? ⟨g5, 0, none⟩ = some (.slice (some ad0) n c0) ∧ W.cell? (ad0.add i) = some (.int .i64 (Sh.gi l0 i))))
                rw [← hx.out] at hkk
                have hsr := Lib.hid hBr.out.size
                have hwi : IntKind.i64.wrap ((i : Int) + 1) = (i : Int) + 1 := IntWalk.i64_in _ (by omega)
                clear k0 hx1 hin1
                go_wp2_with fail
                refine (hic.out _).mono ?_
                rintro e w3 ⟨rfl, rfl⟩
                go_wp2
                clear hwi
                go_region_held3 (fun W' => Below W2.heap.size W2 W' ∧ W'.cell? ⟨g5, 0, none⟩ = some (.slice (some ad0) n c0) ∧ W'.cell? (ad0.add i) = some (.int .i64 x))
                  (first
                    | exact hkk.out _ (by assumption)
                    | exact hkk.out _ hBrd.out
                    | fail)
                  (first
                    | (go_at_call 71; refine (hwc.out _ ?hl).mono ?_; (case hl => first | exact hBrd.out | assumption); rintro e w4 ⟨⟨Aw, cw, rfl, hcw, hCw⟩, hb4⟩; have hB4 : Below W2.heap.size W2 w4 := Below.trans hBrd.out (hb4.mono hsr.out); replace hcw := Lib.hid hcw; replace hCw := Lib.hid hCw; replace hb4 := Lib.hid hb4))
                replace hB4 := Lib.hid (show Below W2.heap.size W2 w4 from by assumption)
                obtain ⟨adw, rfl, hwP⟩ := at_int hCw.out (P : Int) (by omega) (by rw [hwl.out]; omega)
                rw [Int.toNat_natCast, hqg.out] at hwP
                have hVl : V.length = P + 1 := hwl.out
                rw [hVl]
                replace hVl := Lib.hid hVl
                obtain ⟨kw0, kw1, kw2⟩ := hkk.out w4 hB4.out
                have hwp : IntKind.i64.wrap (((P + 1 : Nat) : Int) - 1) = (P : Int) := by rw [IntWalk.i64_in _ (by omega)]; omega
                have hwp2 : IntKind.i64.wrap ((P : Int) + 1 - 1) = (P : Int) := by rw [IntWalk.i64_in _ (by omega)]; omega
                have hC84 := Lib.hid (Kd.C_below (Kd.C_drew hC8.out) hb4.out)
                have hBw4 := Lib.hid (hB2.out.trans (hB4.out.mono hB2.out.size))
                by_cases hqi : q = i
                case neg =>
                  have hDn : Hid (D = none) := Lib.hid (by rw [hDs.out]; exact if_pos (.inl hqi))
                  obtain rfl : R = none := by
                    have h9 := hR.out
                    rw [hDn.out] at h9
                    exact h9
                  have hqb : ((q : Int) != (i : Int)) = true := bne_iff_ne.mpr (by omega)
                  clear hqi hDs
                  go_wp2
                  go_ret2
                  exact ⟨ElGot.nil _, hBw4.out⟩
                case pos =>
                  subst hqi
                  have hqb : ((q : Int) != (q : Int)) = false := bne_self_eq_false _
                  cases hct : out.contains x
                  case true =>
                    have hDn : Hid (D = none) := Lib.hid (by rw [hDs.out]; exact if_pos (.inr hct))
                    obtain rfl : R = none := by
                      have h9 := hR.out
                      rw [hDn.out] at h9
                      exact h9
                    have hlc := Lib.hid (fun W hW => Listed_calls out x A8 c8 W hW hc8.out (by omega) hct)
                    clear hDs hct
                    go_wp2_with fail
                    refine (hlc.out _ hC84.out).mono ?_
                    rintro e w5 ⟨rfl, nq, rfl⟩
                    go_wp2
                    go_ret2
                    exact ⟨ElGot.nil _, pw_below_drewN hBw4.out nq⟩
                  case false =>
                    have hD2 : Hid (D = Sh.hashD l0 (n - (q + 1)) (q + 1) (Sh.withF out x) (many + 1)) := Lib.hid (by rw [hDs.out]; exact if_neg (fun h => h.elim (fun h => h rfl) (fun h => by rw [hct] at h; cases h)))
                    have hlc := Lib.hid (fun W hW => Listed_calls out x A8 c8 W hW hc8.out (by omega) hct)
                    have hwi := Lib.hid (fun W hW => with_calls out x A8 c8 W hW hc8.out (by omega))
                    have hwfl := Sh.withF_len out x
                    clear hDs hct
                    go_wp2_with fail
                    refine (hlc.out _ hC84.out).mono ?_
                    rintro e w5 ⟨rfl, nq, rfl⟩
                    have hC85 := Lib.hid (Kd.C_drewN hC84.out nq)
                    have hB5 := Lib.hid (pw_below_drewN hB4.out nq)
                    have hs5 := Lib.hid hB5.out.size
                    go_wp2_with fail
                    refine (hwi.out _ hC85.out).mono ?_
                    rintro e w6 ⟨⟨A9, c9, rfl, hc9, hC9⟩, hB6⟩
                    have hBr6 := Lib.hid (hB5.out.trans (hB6.mono hs5.out))
                    replace hc9 := Lib.hid hc9
                    replace hC9 := Lib.hid hC9
                    obtain ⟨O, hO⟩ : ∃ O, O = Sh.withF out x := ⟨_, rfl⟩
                    rw [← hO] at hC9 hc9 hD2 hwfl ⊢
                    replace hO := Lib.hid hO
                    clear hB6
                    go_wp2
                    go_roundg (n - (q + 1))
                    case measure => have := hg.out; omega
                    case rel => exact ⟨q + 1, many + 1, O, A9, c9, by go_num, by omega, Lib.hid (by omega), rfl, hc9, hC9, by go_num, by omega, by omega, hD2, hBr6⟩
end Go.Proofs.YtbfedeedicnedaaGreat
end

section
set_option linter.unusedVariables false
set_option linter.unusedSimpArgs false
namespace Go.Proofs.YtbfedeedicnedaaGreat
open Go.RowKit
open Go.Proofs.YtbfedeedicnedaaGreatW.PrintWords
namespace Sh
def elems (H : Hp) (f root n : Int) : Option (List Int) := (list f H root).bind fun l => if (l.length : Int) = n then some l else none
theorem elems_root {H : Hp} {f root n : Int} {l : List Int} (h : elems H f root n = some l) (hl : l.length ≤ 1000000) (ht : there H root = true) : (nd H root).1.length ≤ 1000000 := by
  have hne : root ≠ -1 := by have := (there_iff.1 ht).1; omega
  unfold elems list at h
  obtain ⟨m, hm, h2⟩ := Option.bind_eq_some_iff.1 h
  have hml : m.length ≤ 1000000 := by
    split at h2
    · cases h2; exact hl
    · cases h2
  split at hm
  · unfold listArray at hm
    split at hm
    · cases hm; exact hml
    · cases hm
  split at hm
  · unfold listPages at hm
    split at hm
    · rename_i c
      simp only [Bool.and_eq_true, beq_iff_eq] at c
      omega
    · cases hm
  split at hm
  · obtain ⟨t, T⟩ := listTree_iff.1 hm
    obtain ⟨x, a, b, la, lb, ha, hb, hnd, _⟩ := T.parts hne
    rw [hnd]
    show 2 ≤ 1000000
    omega
  split at hm
  · unfold listTrie at hm
    rw [if_neg hne] at hm
    unfold walkTrie at hm
    split at hm
    · rename_i c
      simp only [Bool.and_eq_true, beq_iff_eq] at c
      omega
    · cases hm
  split at hm
  · obtain ⟨_, _, T, _⟩ := listHash_iff.1 hm
    have := (pow2_pos T.size).2
    omega
  · cases hm
end Sh
theorem rarray_calls (H : Sh.Hp) (root : Int) (A : Option Addr) (c : Nat) (w : World) (hC : Nodes w A H) (hc : H.length ≤ c) (hl : H.length ≤ 1000000) (hroot : Sh.there H root = true → (Sh.nd H root).1.length ≤ 1000000) :
    Calls Tryz.prog 64 #[.slice A H.length c, .int .i64 root] w fun e w' => ElGot w' e (Sh.listArray H root) ∧ Below w.heap.size w w' := by
  obtain ⟨l, hev, hm⟩ := PAll.ev_array H root hl hroot
  obtain ⟨k, hk⟩ := hev.rounds
  have hV : Kd.V PAll.k95 95 w w.heap.size (fun k_ => k_ < w.heap.size) (.slice A (sn H).length c) (sn H) := by
    refine Kd.V_mk (by rw [sn_len]; exact hc) (Kd.C_F PAll.k95_heap ?_)
    rw [sn_len]
    exact hC
  have hcl := PAll.swardref12_array.calls k _ A c (sn H) root l _ w hV hk
  rw [sn_len] at hcl
  refine hcl.mono ?_
  rintro e w' ⟨v, rfl, h0, hB⟩
  obtain ⟨A0, c0, rfl⟩ := Kd.V_slice h0
  exact ⟨⟨A0, c0, l, rfl, (Kd.V_reads' h0).2.1, (Kd.V_reads' h0).2.2, hm⟩, hB⟩
theorem two_got {base : Nat} {w' : World} {v : Value} {r : Option (List Int)} (h : Ints w' base v (PAll.two r).1) : ElGot w' (.returned (.tuple #[v, .bool (PAll.two r).2])) r := by
  obtain ⟨A, c, rfl, hc, hC⟩ := Kd.R_reads h
  exact ⟨A, c, _, rfl, hc, hC, fun m hm => by rw [hm]; rfl⟩
theorem rbits_calls (H : Sh.Hp) (root : Int) (A : Option Addr) (c : Nat) (w : World) (hC : Nodes w A H) (hc : H.length ≤ c) (hl : H.length ≤ 1000000) :
    Calls Tryz.prog 65 #[.slice A H.length c, .int .i64 root] w fun e w' => ElGot w' e (Sh.listPages H root) ∧ Below w.heap.size w w' := by
  obtain ⟨k, hk⟩ := (PAll.ev_bitset H root hl).rounds
  have hC' : Kd.C PAll.k95 w A (sn H).length (sn H) := by rw [sn_len]; exact hC
  have hcl := PAll.swardref12_bitset.calls k A c (sn H) root _ _ w hC' (by rw [sn_len]; exact hc) hk
  rw [sn_len] at hcl
  refine hcl.mono ?_
  rintro e w' ⟨v, rfl, h0, hB⟩
  exact ⟨two_got h0, hB⟩
theorem rtrie_calls (H : Sh.Hp) (root : Int) (A : Option Addr) (c : Nat) (w : World) (hC : Nodes w A H) (hc : H.length ≤ c) (hl : H.length ≤ 1000000) :
    Calls Tryz.prog 67 #[.slice A H.length c, .int .i64 root, .int .i64 1, .int .i64 0] w fun e w' => ElGot w' e (Sh.walkTrie H 4 root 0) ∧ Below w.heap.size w w' := by
  obtain ⟨k, hk⟩ := (PAll.ev_trie_top H hl root).rounds
  have hC' : Kd.C PAll.k95 w A (sn H).length (sn H) := by rw [sn_len]; exact hC
  have hcl := PAll.swardref12_trie.calls k A c (sn H) root 1 0 _ _ w hC' (by rw [sn_len]; exact hc) hk
  rw [sn_len] at hcl
  refine hcl.mono ?_
  rintro e w' ⟨v, rfl, h0, hB⟩
  exact ⟨two_got h0, hB⟩
set_option maxRecDepth 100000 in
set_option maxHeartbeats 4000000 in
theorem relements_calls (H : Sh.Hp) (f root n : Int) (A : Option Addr) (c : Nat) (w : World) (hC : Nodes w A H) (hc : H.length ≤ c) (hl : H.length ≤ 1000000) (hbig : Sh.there H root = true → (Sh.nd H root).1.length ≤ 1000000) :
    Calls Tryz.prog 23 #[.slice A H.length c, shV f root n] w fun e w' => ElGot w' e (Sh.elems H f root n) ∧ Below w.heap.size w w' := by
  obtain ⟨R, hR⟩ : ∃ R, R = Sh.elems H f root n := ⟨_, rfl⟩
  rw [← hR]
  unfold Sh.elems Sh.list at hR
  obtain ⟨W1, hW1⟩ : ∃ W1, W1 = w.alloc (.cells #[.int .i64 f, .int .i64 root, .int .i64 n] 25) := ⟨_, rfl⟩
  have hB1 := Lib.hid (show Below w.heap.size w W1 by rw [hW1]; exact shape_box w f root n)
  have hblk := Lib.hid (show W1.heap[w.heap.size]? = some (.cells #[.int .i64 f, .int .i64 root, .int .i64 n] 25 (0, 0)) by rw [hW1]; exact heap_alloc_new w _)
  have hCW := Lib.hid (Kd.C_below hC hB1.out)
  have hBf := Lib.hid (fun W (hW : Below W1.heap.size W1 W) => (hB1.out.trans (hW.mono hB1.out.size) : Below w.heap.size w W))
  have hcells := Lib.hid (fun W (hW : Below W1.heap.size W1 W) => (⟨by rw [blk_cell (blk_below hblk.out hW)]; rfl, by rw [blk_cell (blk_below hblk.out hW)]; rfl⟩ : W.cell? ⟨w.heap.size, 1, none⟩ = some (.int .i64 root) ∧ W.cell? ⟨w.heap.size, 2, none⟩ = some (.int .i64 n)))
  clear hC
  by_cases h1 : f = 1
  · subst h1
    rw [if_pos rfl] at hR
    have hcl := Lib.hid (rarray_calls H root A c W1 hCW.out hc hl hbig)
    obtain ⟨r, hr⟩ : ∃ r, r = Sh.listArray H root := ⟨_, rfl⟩
    rw [← hr] at hcl hR
    replace hR := Lib.hid hR
    replace hr := Lib.hid hr
    clear hblk hCW
    go_enter Tryz.func23, Tryz.ntmps23
    go_wp2_with fail
    rw [← hW1]
    refine (hcl.out).mono ?_
    rintro e w1 ⟨⟨A1, c1, l, rfl, hc1, hC1, hm⟩, hB⟩
    obtain ⟨d1, d2⟩ := hcells.out _ hB
    have hBw := Lib.hid (hBf.out _ hB)
    clear hW1 hB hcells hBf
    rcases r with _ | m
    · obtain rfl : R = none := hR.out
      replace hC1 := Lib.hid hC1
      replace hc1 := Lib.hid hc1
      clear hm
      go_wp2
      go_quiet (fail)
      go_wp2
      go_ret2
      exact ⟨⟨A1, c1, l, rfl, hc1.out, Kd.C_drewN hC1.out _, fun m hm => by cases hm⟩, pw_below_drewN hBw.out _⟩
    · obtain rfl : l = m := hm m rfl
      replace hR := Lib.hid (show R = if (l.length : Int) = n then some l else none from hR.out)
      replace hC1 := Lib.hid hC1
      replace hc1 := Lib.hid hc1
      clear hm
      obtain ⟨q, hq⟩ : ∃ q, q = l.length := ⟨_, rfl⟩
      rw [← hq] at hR hc1 hC1 ⊢
      replace hq := Lib.hid hq
      by_cases hqn : (q : Int) = n
      · obtain rfl : R = some l := by rw [hR.out]; exact if_pos hqn
        have hqb : ((q : Int) == n) = true := beq_iff_eq.mpr hqn
        clear hqn
        go_wp2
        go_quiet (fail)
        go_wp2
        go_ret2
        exact ⟨⟨A1, c1, l, by rw [← hq.out]; rfl, by rw [← hq.out]; exact hc1.out, by rw [← hq.out]; exact Kd.C_drewN hC1.out _, fun m hm => Option.some.inj hm⟩, pw_below_drewN hBw.out _⟩
      · obtain rfl : R = none := by rw [hR.out]; exact if_neg hqn
        have hqb : ((q : Int) == n) = false := beq_eq_false_iff_ne.mpr hqn
        clear hqn
        go_wp2
        go_quiet (fail)
        go_wp2
        go_ret2
        exact ⟨⟨A1, c1, l, by rw [← hq.out]; rfl, by rw [← hq.out]; exact hc1.out, by rw [← hq.out]; exact Kd.C_drewN hC1.out _, fun m hm => by cases hm⟩, pw_below_drewN hBw.out _⟩
  by_cases h2 : f = 2
  · subst h2
    rw [if_neg h1, if_pos rfl] at hR
    have hcl := Lib.hid (rbits_calls H root A c W1 hCW.out hc hl)
    obtain ⟨r, hr⟩ : ∃ r, r = Sh.listPages H root := ⟨_, rfl⟩
    rw [← hr] at hcl hR
    replace hR := Lib.hid hR
    replace hr := Lib.hid hr
    clear hblk hCW h1
    go_enter Tryz.func23, Tryz.ntmps23
    go_wp2_with fail
    rw [← hW1]
    refine (hcl.out).mono ?_
    rintro e w1 ⟨⟨A1, c1, l, rfl, hc1, hC1, hm⟩, hB⟩
    obtain ⟨d1, d2⟩ := hcells.out _ hB
    have hBw := Lib.hid (hBf.out _ hB)
    clear hW1 hB hcells hBf
    rcases r with _ | m
    · obtain rfl : R = none := hR.out
      replace hC1 := Lib.hid hC1
      replace hc1 := Lib.hid hc1
      clear hm
      go_wp2
      go_quiet (fail)
      go_wp2
      go_ret2
      exact ⟨⟨A1, c1, l, rfl, hc1.out, Kd.C_drewN hC1.out _, fun m hm => by cases hm⟩, pw_below_drewN hBw.out _⟩
    · obtain rfl : l = m := hm m rfl
      replace hR := Lib.hid (show R = if (l.length : Int) = n then some l else none from hR.out)
      replace hC1 := Lib.hid hC1
      replace hc1 := Lib.hid hc1
      clear hm
      obtain ⟨q, hq⟩ : ∃ q, q = l.length := ⟨_, rfl⟩
      rw [← hq] at hR hc1 hC1 ⊢
      replace hq := Lib.hid hq
      by_cases hqn : (q : Int) = n
      · obtain rfl : R = some l := by rw [hR.out]; exact if_pos hqn
        have hqb : ((q : Int) == n) = true := beq_iff_eq.mpr hqn
        clear hqn
        go_wp2
        go_quiet (fail)
        go_wp2
        go_ret2
        exact ⟨⟨A1, c1, l, by rw [← hq.out]; rfl, by rw [← hq.out]; exact hc1.out, by rw [← hq.out]; exact Kd.C_drewN hC1.out _, fun m hm => Option.some.inj hm⟩, pw_below_drewN hBw.out _⟩
      · obtain rfl : R = none := by rw [hR.out]; exact if_neg hqn
        have hqb : ((q : Int) == n) = false := beq_eq_false_iff_ne.mpr hqn
        clear hqn
        go_wp2
        go_quiet (fail)
        go_wp2
        go_ret2
        exact ⟨⟨A1, c1, l, by rw [← hq.out]; rfl, by rw [← hq.out]; exact hc1.out, by rw [← hq.out]; exact Kd.C_drewN hC1.out _, fun m hm => by cases hm⟩, pw_below_drewN hBw.out _⟩
  by_cases h3 : f = 3
  · subst h3
    rw [if_neg h1, if_neg h2, if_pos rfl] at hR
    have hcl := Lib.hid (rtree_calls 1026 H root 0 1023 A c W1 hCW.out hc (by omega) (by omega) (by omega) (by omega))
    have htl : Sh.listTree H root = Sh.walkTree H 1026 root (0 - 1) (1023 + 1) := rfl
    rw [htl] at hR
    obtain ⟨r, hr⟩ : ∃ r, r = Sh.walkTree H 1026 root (0 - 1) (1023 + 1) := ⟨_, rfl⟩
    rw [← hr] at hcl hR
    obtain ⟨t, ht⟩ : ∃ t, t = Sh.height H root := ⟨_, rfl⟩
    rw [← ht] at hcl
    replace hcl := Lib.hid (Calls.mono hcl.out (fun e w' h => (⟨by
      obtain ⟨⟨v, he, ho⟩, hB⟩ := h
      obtain ⟨A1, c1, hv, hc1, hC1⟩ := Kd.R_reads ho
      exact ⟨(if r.isSome then t else 0), A1, c1, r.getD [], by rw [he, hv], hc1, hC1, fun m hm => by rw [hm]; rfl⟩, h.2⟩ : (∃ t' A1 c1 l, e = .returned (.tuple #[.slice A1 (l : List Int).length c1, .int .i64 t', .bool r.isSome]) ∧ l.length ≤ c1 ∧ Kd.C kI w' A1 l.length l ∧ ∀ m, r = some m → l = m) ∧ Below W1.heap.size W1 w')))
    replace hR := Lib.hid hR
    replace hr := Lib.hid hr
    clear hblk hCW h1 h2 htl ht
    go_enter Tryz.func23, Tryz.ntmps23
    go_wp2_with fail
    rw [← hW1]
    refine (hcl.out).mono ?_
    rintro e w1 ⟨⟨t', A1, c1, l, rfl, hc1, hC1, hm⟩, hB⟩
    obtain ⟨d1, d2⟩ := hcells.out _ hB
    have hBw := Lib.hid (hBf.out _ hB)
    clear hW1 hB hcells hBf
    rcases r with _ | m
    · obtain rfl : R = none := hR.out
      replace hC1 := Lib.hid hC1
      replace hc1 := Lib.hid hc1
      clear hm
      go_wp2
      go_quiet (fail)
      go_wp2
      go_ret2
      exact ⟨⟨A1, c1, l, rfl, hc1.out, Kd.C_drewN hC1.out _, fun m hm => by cases hm⟩, pw_below_drewN hBw.out _⟩
    · obtain rfl : l = m := hm m rfl
      replace hR := Lib.hid (show R = if (l.length : Int) = n then some l else none from hR.out)
      replace hC1 := Lib.hid hC1
      replace hc1 := Lib.hid hc1
      clear hm
      obtain ⟨q, hq⟩ : ∃ q, q = l.length := ⟨_, rfl⟩
      rw [← hq] at hR hc1 hC1 ⊢
      replace hq := Lib.hid hq
      by_cases hqn : (q : Int) = n
      · obtain rfl : R = some l := by rw [hR.out]; exact if_pos hqn
        have hqb : ((q : Int) == n) = true := beq_iff_eq.mpr hqn
        clear hqn
        go_wp2
        go_quiet (fail)
        go_wp2
        go_ret2
        exact ⟨⟨A1, c1, l, by rw [← hq.out]; rfl, by rw [← hq.out]; exact hc1.out, by rw [← hq.out]; exact Kd.C_drewN hC1.out _, fun m hm => Option.some.inj hm⟩, pw_below_drewN hBw.out _⟩
      · obtain rfl : R = none := by rw [hR.out]; exact if_neg hqn
        have hqb : ((q : Int) == n) = false := beq_eq_false_iff_ne.mpr hqn
        clear hqn
        go_wp2
        go_quiet (fail)
        go_wp2
        go_ret2
        exact ⟨⟨A1, c1, l, by rw [← hq.out]; rfl, by rw [← hq.out]; exact hc1.out, by rw [← hq.out]; exact Kd.C_drewN hC1.out _, fun m hm => by cases hm⟩, pw_below_drewN hBw.out _⟩
  by_cases h4 : f = 4
  · subst h4
    rw [if_neg h1, if_neg h2, if_neg h3, if_pos rfl] at hR
    unfold Sh.listTrie at hR
    by_cases hr1 : root = -1
    · subst hr1
      rw [if_pos rfl] at hR
      replace hR := Lib.hid hR
      clear h1 h2 h3 hCW hblk
      have hcl := hcells.out W1 (Below.refl _ _)
      by_cases hn : n = 0
      · subst hn
        obtain rfl : R = some [] := hR.out
        go_enter Tryz.func23, Tryz.ntmps23
        go_wp2
        rw [← hW1]
        clear hW1
        obtain ⟨d1, d2⟩ := hcl
        go_quiet (fail)
        go_wp2
        go_ret2
        exact ⟨⟨none, 0, [], rfl, Nat.le_refl _, C_nil _, fun m hm => Option.some.inj hm⟩, pw_below_drewN hB1.out _⟩
      · obtain rfl : R = none := by rw [hR.out]; exact if_neg (fun h => hn h.symm)
        have hnb : ((0 : Int) == n) = false := beq_eq_false_iff_ne.mpr (fun h => hn h.symm)
        go_enter Tryz.func23, Tryz.ntmps23
        go_wp2
        rw [← hW1]
        clear hW1
        obtain ⟨d1, d2⟩ := hcl
        go_quiet (fail)
        go_wp2
        go_ret2
        exact ⟨⟨none, 0, [], rfl, Nat.le_refl _, C_nil _, fun m hm => by cases hm⟩, pw_below_drewN hB1.out _⟩
    · rw [if_neg hr1] at hR
      have hcl := Lib.hid (rtrie_calls H root A c W1 hCW.out hc hl)
      obtain ⟨r, hr⟩ : ∃ r, r = Sh.walkTrie H 4 root 0 := ⟨_, rfl⟩
      rw [← hr] at hcl hR
      replace hR := Lib.hid hR
      replace hr := Lib.hid hr
      have hr1b : (root == -1) = false := beq_eq_false_iff_ne.mpr hr1
      clear hblk hCW h1 h2 h3 hr1
      go_enter Tryz.func23, Tryz.ntmps23
      go_wp2_with fail
      rw [← hW1]
      refine (hcl.out).mono ?_
      rintro e w1 ⟨⟨A1, c1, l, rfl, hc1, hC1, hm⟩, hB⟩
      obtain ⟨d1, d2⟩ := hcells.out _ hB
      have hBw := Lib.hid (hBf.out _ hB)
      clear hW1 hB hcells hBf
      rcases r with _ | m
      · obtain rfl : R = none := hR.out
        replace hC1 := Lib.hid hC1
        replace hc1 := Lib.hid hc1
        clear hm
        go_wp2
        go_quiet (fail)
        go_wp2
        go_ret2
        exact ⟨⟨A1, c1, l, rfl, hc1.out, Kd.C_drewN hC1.out _, fun m hm => by cases hm⟩, pw_below_drewN hBw.out _⟩
      · obtain rfl : l = m := hm m rfl
        replace hR := Lib.hid (show R = if (l.length : Int) = n then some l else none from hR.out)
        replace hC1 := Lib.hid hC1
        replace hc1 := Lib.hid hc1
        clear hm
        obtain ⟨q, hq⟩ : ∃ q, q = l.length := ⟨_, rfl⟩
        rw [← hq] at hR hc1 hC1 ⊢
        replace hq := Lib.hid hq
        by_cases hqn : (q : Int) = n
        · obtain rfl : R = some l := by rw [hR.out]; exact if_pos hqn
          have hqb : ((q : Int) == n) = true := beq_iff_eq.mpr hqn
          clear hqn
          go_wp2
          go_quiet (fail)
          go_wp2
          go_ret2
          exact ⟨⟨A1, c1, l, by rw [← hq.out]; rfl, by rw [← hq.out]; exact hc1.out, by rw [← hq.out]; exact Kd.C_drewN hC1.out _, fun m hm => Option.some.inj hm⟩, pw_below_drewN hBw.out _⟩
        · obtain rfl : R = none := by rw [hR.out]; exact if_neg hqn
          have hqb : ((q : Int) == n) = false := beq_eq_false_iff_ne.mpr hqn
          clear hqn
          go_wp2
          go_quiet (fail)
          go_wp2
          go_ret2
          exact ⟨⟨A1, c1, l, by rw [← hq.out]; rfl, by rw [← hq.out]; exact hc1.out, by rw [← hq.out]; exact Kd.C_drewN hC1.out _, fun m hm => by cases hm⟩, pw_below_drewN hBw.out _⟩
  by_cases h5 : f = 5
  · subst h5
    rw [if_neg h1, if_neg h2, if_neg h3, if_neg h4, if_pos rfl] at hR
    have hcl := Lib.hid (rhash_calls H root A c W1 hCW.out hc hbig)
    obtain ⟨r, hr⟩ : ∃ r, r = Sh.listHash H root := ⟨_, rfl⟩
    rw [← hr] at hcl hR
    replace hR := Lib.hid hR
    replace hr := Lib.hid hr
    clear hblk hCW h1 h2 h3 h4
    go_enter Tryz.func23, Tryz.ntmps23
    go_wp2_with fail
    rw [← hW1]
    refine (hcl.out).mono ?_
    rintro e w1 ⟨⟨A1, c1, l, rfl, hc1, hC1, hm⟩, hB⟩
    obtain ⟨d1, d2⟩ := hcells.out _ hB
    have hBw := Lib.hid (hBf.out _ hB)
    clear hW1 hB hcells hBf
    rcases r with _ | m
    · obtain rfl : R = none := hR.out
      replace hC1 := Lib.hid hC1
      replace hc1 := Lib.hid hc1
      clear hm
      go_wp2
      go_quiet (fail)
      go_wp2
      go_ret2
      exact ⟨⟨A1, c1, l, rfl, hc1.out, Kd.C_drewN hC1.out _, fun m hm => by cases hm⟩, pw_below_drewN hBw.out _⟩
    · obtain rfl : l = m := hm m rfl
      replace hR := Lib.hid (show R = if (l.length : Int) = n then some l else none from hR.out)
      replace hC1 := Lib.hid hC1
      replace hc1 := Lib.hid hc1
      clear hm
      obtain ⟨q, hq⟩ : ∃ q, q = l.length := ⟨_, rfl⟩
      rw [← hq] at hR hc1 hC1 ⊢
      replace hq := Lib.hid hq
      by_cases hqn : (q : Int) = n
      · obtain rfl : R = some l := by rw [hR.out]; exact if_pos hqn
        have hqb : ((q : Int) == n) = true := beq_iff_eq.mpr hqn
        clear hqn
        go_wp2
        go_quiet (fail)
        go_wp2
        go_ret2
        exact ⟨⟨A1, c1, l, by rw [← hq.out]; rfl, by rw [← hq.out]; exact hc1.out, by rw [← hq.out]; exact Kd.C_drewN hC1.out _, fun m hm => Option.some.inj hm⟩, pw_below_drewN hBw.out _⟩
      · obtain rfl : R = none := by rw [hR.out]; exact if_neg hqn
        have hqb : ((q : Int) == n) = false := beq_eq_false_iff_ne.mpr hqn
        clear hqn
        go_wp2
        go_quiet (fail)
        go_wp2
        go_ret2
        exact ⟨⟨A1, c1, l, by rw [← hq.out]; rfl, by rw [← hq.out]; exact hc1.out, by rw [← hq.out]; exact Kd.C_drewN hC1.out _, fun m hm => by cases hm⟩, pw_below_drewN hBw.out _⟩
  rw [if_neg h1, if_neg h2, if_neg h3, if_neg h4, if_neg h5] at hR
  obtain rfl : R = none := hR
  have e1 : (f == 1) = false := beq_eq_false_iff_ne.mpr h1
  have e2 : (f == 2) = false := beq_eq_false_iff_ne.mpr h2
  have e3 : (f == 3) = false := beq_eq_false_iff_ne.mpr h3
  have e4 : (f == 4) = false := beq_eq_false_iff_ne.mpr h4
  have e5 : (f == 5) = false := beq_eq_false_iff_ne.mpr h5
  have hcl := hcells.out W1 (Below.refl _ _)
  clear h1 h2 h3 h4 h5 hblk hCW
  go_enter Tryz.func23, Tryz.ntmps23
  go_wp2
  rw [← hW1]
  clear hW1
  obtain ⟨d1, d2⟩ := hcl
  go_quiet (fail)
  go_wp2
  go_ret2
  exact ⟨⟨none, 0, [], rfl, Nat.le_refl _, C_nil _, fun m hm => by cases hm⟩, pw_below_drewN hB1.out _⟩
end Go.Proofs.YtbfedeedicnedaaGreat
end

section
set_option linter.unusedVariables false
set_option linter.unusedSimpArgs false
namespace Go.Proofs.YtbfedeedicnedaaGreat
open Go.RowKit
open Go.Proofs.YtbfedeedicnedaaGreatW.PrintWords
theorem same_calls (a b : List Int) (A0 : Option Addr) (c0 : Nat) (A1 : Option Addr) (c1 : Nat) (w : World) (h0 : Kd.C kI w A0 a.length a) (hc0 : a.length ≤ c0) (h1 : Kd.C kI w A1 b.length b) (hc1 : b.length ≤ c1) (ha : a.length ≤ 1000000) {r : Bool} (hr : decide (a = b) = r) :
    Calls Tryz.prog 24 #[.slice A0 a.length c0, .slice A1 b.length c1] w fun e w' => e = .returned (.bool r) ∧ Drawn0 w w' := by
  subst hr
  obtain ⟨k, hk⟩ := (PAll.ev_same a b ha).rounds
  exact PAll.swardlaw12_same.calls k A0 c0 a A1 c1 b _ w h0 hc0 h1 hc1 hk
theorem fresh_calls (H E : Sh.Hp) (m : Int) (A : Option Addr) (c : Nat) (AG : Option Addr) (cG : Nat) (w : World) (hC : Nodes w A H) (hc : H.length ≤ c) (hG : Nodes w AG (H ++ E)) (hcG : (H ++ E).length ≤ cG) (hl : H.length + E.length ≤ 1000000) (hm : (E.length : Int) ≤ m) (hbig : ∀ p ∈ H, p.1.length ≤ 1000000 ∧ p.2.length ≤ 1000000) :
    Calls Tryz.prog 58 #[.slice A H.length c, .slice AG (H ++ E).length cG, .int .i64 m] w fun e w' => e = .returned (.bool true) ∧ Drawn0 w w' := by
  obtain ⟨k, hk⟩ := (PAll.ev_fresh H E m hl hm hbig).rounds
  have h1 : Kd.C PAll.k95 w A (sn H).length (sn H) := by rw [sn_len]; exact hC
  have h2 : Kd.C PAll.k95 w AG (sn (H ++ E)).length (sn (H ++ E)) := by rw [sn_len]; exact hG
  have := PAll.swardlaw12_fresh.calls k A c (sn H) AG cG (sn (H ++ E)) m true w h1 (by rw [sn_len]; exact hc) h2 (by rw [sn_len]; exact hcG) hk
  rw [sn_len, sn_len] at this
  exact this
set_option maxRecDepth 100000 in
set_option maxHeartbeats 4000000 in
theorem holds_calls (H E : Sh.Hp) (f root n m : Int) (l : List Int) (A : Option Addr) (c : Nat) (AG : Option Addr) (cG : Nat) (A2 : Option Addr) (c2 : Nat) (w : World) (hC : Nodes w A H) (hc : H.length ≤ c) (hG : Nodes w AG (H ++ E)) (hcG : (H ++ E).length ≤ cG) (hL : Kd.C kI w A2 l.length l) (hc2 : l.length ≤ c2) (hl : H.length + E.length ≤ 1000000) (hm : (E.length : Int) ≤ m) (hll : l.length ≤ 1000000) (hbig : ∀ p ∈ H, p.1.length ≤ 1000000 ∧ p.2.length ≤ 1000000) (hel : Sh.elems (H ++ E) f root n = some l) :
    Calls Tryz.prog 32 #[.slice A H.length c, .slice AG (H ++ E).length cG, shV f root n, .int .i64 f, .slice A2 l.length c2, .int .i64 m] w fun e w' => e = .returned (.bool true) ∧ Below w.heap.size w w' := by
  obtain ⟨W1, hW1⟩ : ∃ W1, W1 = w.alloc (.cells #[.int .i64 f, .int .i64 root, .int .i64 n] 25) := ⟨_, rfl⟩
  have hB1 := Lib.hid (show Below w.heap.size w W1 by rw [hW1]; exact shape_box w f root n)
  have hblk := Lib.hid (show W1.heap[w.heap.size]? = some (.cells #[.int .i64 f, .int .i64 root, .int .i64 n] 25 (0, 0)) by rw [hW1]; exact heap_alloc_new w _)
  have hcl := Lib.hid (relements_calls (H ++ E) f root n AG cG W1 (Kd.C_below hG hB1.out) hcG (by rw [List.length_append]; exact hl) (fun ht => Sh.elems_root hel hll ht))
  rw [hel] at hcl
  have hBf := Lib.hid (fun W (hW : Below W1.heap.size W1 W) => (hB1.out.trans (hW.mono hB1.out.size) : Below w.heap.size w W))
  have hcell := Lib.hid (fun W (hW : Below W1.heap.size W1 W) => (by rw [blk_cell (blk_below hblk.out hW)]; rfl : W.cell? ⟨w.heap.size, 0, none⟩ = some (.int .i64 f)))
  have hfr := Lib.hid (fun W (hW : Below W1.heap.size W1 W) => fresh_calls H E m A c AG cG W (Kd.C_below hC (hBf.out W hW)) hc (Kd.C_below hG (hBf.out W hW)) hcG hl hm hbig)
  have hsa := Lib.hid (fun A1 c1 W (hW : Below W1.heap.size W1 W) (h1 : Kd.C kI W A1 l.length l) (hc1 : l.length ≤ c1) => same_calls l l A1 c1 A2 c2 W h1 hc1 (Kd.C_below hL (hBf.out W hW)) hc2 hll (decide_eq_true rfl))
  have hffb : (f == f) = true := beq_self_eq_true f
  obtain ⟨q, hq⟩ : ∃ q, q = (H ++ E).length := ⟨_, rfl⟩
  rw [← hq] at hcl hfr ⊢
  obtain ⟨q2, hq2⟩ : ∃ q2, q2 = l.length := ⟨_, rfl⟩
  have hq2h := Lib.hid hq2
  rw [← hq2] at hsa ⊢
  clear hC hG hL hblk hq hq2 hel hbig
  go_enter Tryz.func32, Tryz.ntmps32
  go_wp2_with fail
  rw [← hW1]
  clear hW1
  refine (hcl.out).mono ?_
  rintro e w1 ⟨⟨A1, c1, l1, rfl, hc1, hC1, hm1⟩, hB⟩
  obtain rfl : l1 = l := hm1 l rfl
  rw [← hq2h.out] at hC1 hc1 ⊢
  replace hC1 := Lib.hid hC1
  have hBh := Lib.hid hB
  clear hm1 hB
  go_wp2_with fail
  refine (hfr.out _ hBh.out).mono ?_
  rintro e w2 ⟨rfl, nq, rfl⟩
  have hB2 := Lib.hid (pw_below_drewN hBh.out nq)
  have hC2 := Lib.hid (Kd.C_drewN hC1.out nq)
  have hk := hcell.out _ hB2.out
  go_wp2_with fail
  refine (hsa.out _ _ _ hB2.out hC2.out hc1).mono ?_
  rintro e w3 ⟨rfl, nr, rfl⟩
  have hB3 := Lib.hid (hBf.out _ (pw_below_drewN hB2.out nr))
  rw [World.drewN_drewN] at hB3
  clear hk
  go_wp2
  go_ret
  exact ⟨rfl, hB3.out⟩
end Go.Proofs.YtbfedeedicnedaaGreat
end
