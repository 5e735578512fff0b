/-
  Texts of this claim: ShO, ShQ, ShDg, KitRF.
-/
import Derived.Test.YtbfedeedicnedaaGreatSe10
import Derived.RangeFuncNested
import Derived.RangeFuncBound
import Derived.RangeFuncCalls
import Derived.RangeFuncLeaves
import Derived.RangeFuncOwn
set_option linter.unusedVariables false
set_option linter.unusedSimpArgs false
section
namespace Go.Proofs.YtbfedeedicnedaaGreat
open Go.RowKit
open Go.Proofs.YtbfedeedicnedaaGreatW.PrintWords
namespace Sh
def findA (l : List Int) (x : Int) : Nat → Nat → Nat → Nat → Bool × Nat
  | 0, _, _, s => (false, s)
  | g + 1, low, high, s =>
    if low < high then
      if gi l ((low + high) / 2) = x then (true, s + 1)
      else if gi l ((low + high) / 2) < x then findA l x g ((low + high) / 2 + 1) high (s + 1)
      else findA l x g low ((low + high) / 2) (s + 1)
    else (false, s)
theorem findA_step (l : List Int) (x : Int) (g low high s : Nat) : findA l x (g + 1) low high s =
    if low < high then
      if gi l ((low + high) / 2) = x then (true, s + 1)
      else if gi l ((low + high) / 2) < x then findA l x g ((low + high) / 2 + 1) high (s + 1)
      else findA l x g low ((low + high) / 2) (s + 1)
    else (false, s) := rfl
def findT (h : Hp) (x : Int) : Nat → Int → Nat → Bool × Nat
  | 0, _, s => (false, s)
  | g + 1, r, s =>
    if r = -1 then (false, s)
    else if x = elt h r then (true, s + 1)
    else if x < elt h r then findT h x g (lft h r) (s + 1)
    else findT h x g (rgt h r) (s + 1)
theorem findT_step (h : Hp) (x : Int) (g : Nat) (r : Int) (s : Nat) : findT h x (g + 1) r s =
    if r = -1 then (false, s)
    else if x = elt h r then (true, s + 1)
    else if x < elt h r then findT h x g (lft h r) (s + 1)
    else findT h x g (rgt h r) (s + 1) := rfl
end Sh
set_option maxRecDepth 100000 in
set_option maxHeartbeats 4000000 in
theorem afind_calls (H : Sh.Hp) (root x : Int) (A : Option Addr) (c : Nat) (w : World) (hC : Nodes w A H) (ht : Sh.there H root = true) (hbig : (Sh.nd H root).1.length ≤ 1000000) :
    Calls Tryz.prog 161 #[.agg #[], .slice A H.length c, .int .i64 root, .int .i64 x] w fun e w' => e = .returned (.tuple #[.bool (Sh.findA (Sh.nd H root).1 x ((Sh.nd H root).1.length + 1) 0 (Sh.nd H root).1.length 0).1, .int .i64 ((Sh.findA (Sh.nd H root).1 x ((Sh.nd H root).1.length + 1) 0 (Sh.nd H root).1.length 0).2 : Nat)]) ∧ Below w.heap.size w w' := by
  have hB0 := Lib.hid (show Below w.heap.size w (w.alloc (.cells #[] 154)) from (Below.refl _ _).alloc (Nat.le_refl _) _)
  obtain ⟨hr0, hr1⟩ := Sh.there_iff.1 ht
  have hC1 := Kd.C_alloc hC (.cells #[] 154)
  obtain ⟨ad, A0, c0, A1, c1, rfl, d0, d1, l0, g0, l1, g1⟩ := Nodes.at hC1 root hr0 hr1
  obtain ⟨i, rfl⟩ := Int.eq_ofNat_of_zero_le hr0
  simp only [Int.toNat_natCast] at d0 d1
  generalize (Sh.nd H (i : Int)).1 = l at *
  have hg0 := Lib.hid g0
  obtain ⟨R, hR⟩ : ∃ R, R = Sh.findA l x (l.length + 1) 0 l.length 0 := ⟨_, rfl⟩
  rw [← hR]
  replace hR := Lib.hid hR
  obtain ⟨n, hn⟩ : ∃ n, n = l.length := ⟨_, rfl⟩
  rw [← hn] at d0 hg0 hbig
  have hnh := Lib.hid hn
  clear hC hC1 g0 g1 ht hn d1 l0
  go_enter Tryz.func161, Tryz.ntmps161
  go_wp2
  go_loopg [11, 12, 13] n (fun g v11 v12 v13 wr => ∃ (low high s G : Nat), v11 = .int .i64 low ∧ v12 = .int .i64 high ∧ v13 = .int .i64 s ∧ low ≤ high ∧ high ≤ n ∧ s + (high - low) ≤ 1000000 ∧ Hid (g + low = high) ∧ wr = w.alloc (.cells #[] 154) ∧ Hid (high - low < G) ∧ Hid (R = Sh.findA l x G low high s))
  case atStart => exact ⟨0, n, 0, n + 1, rfl, rfl, rfl, Nat.zero_le _, Nat.le_refl _, by omega, Lib.hid rfl, rfl, Lib.hid (by omega), Lib.hid (by rw [hR.out, hnh.out])⟩
  case round =>
    obtain ⟨low, high, s, G, rfl, rfl, rfl, hlh, hhn, hs, hg, rfl, hG, hRr⟩ := hrel
    obtain ⟨G, rfl⟩ : ∃ G', G = G' + 1 := ⟨G - 1, by have := hG.out; omega⟩
    have hst := Sh.findA_step l x G low high s
    rw [← hRr.out] at hst
    by_cases hlt : low < high
    · rw [if_pos hlt] at hst
      obtain ⟨m, hm⟩ : ∃ m, m = (low + high) / 2 := ⟨_, rfl⟩
      rw [← hm] at hst
      obtain ⟨ad0, rfl, e0⟩ := at_int hg0.out m (by omega) (by omega)
      rw [Int.toNat_natCast] at e0
      have hmn : m < n := by omega
      have hml : low ≤ m := by omega
      have hmh : m < high := by omega
      have hq : ((low : Int) + (high : Int)).tdiv 2 = (m : Int) := by rw [Int.tdiv_eq_ediv_of_nonneg (by omega)]; omega
      replace hm := Lib.hid hm
      obtain ⟨y, hy⟩ : ∃ y, y = Sh.gi l m := ⟨_, rfl⟩
      rw [← hy] at e0 hst
      replace hy := Lib.hid hy
      by_cases c1 : y = x
      · rw [if_pos c1] at hst
        replace hst := Lib.hid hst
        have c1b : (y == x) = true := beq_iff_eq.mpr c1
        clear c1
        go_wp2
        go_ret2
        obtain rfl := hst.out
        exact ⟨rfl, hB0.out⟩
      rw [if_neg c1] at hst
      have c1b : (y == x) = false := beq_eq_false_iff_ne.mpr c1
      by_cases c2 : y < x
      · rw [if_pos c2] at hst
        replace hst := Lib.hid hst
        clear c1
        go_wp2
        go_roundg (high - (m + 1))
        case measure => have := hg.out; omega
        case rel => exact ⟨m + 1, high, s + 1, G, by go_num, rfl, by go_num, by omega, hhn, by omega, Lib.hid (by omega), rfl, Lib.hid (by have := hG.out; omega), hst⟩
      · rw [if_neg c2] at hst
        replace hst := Lib.hid hst
        clear c1
        go_wp2
        go_roundg (m - low)
        case measure => have := hg.out; omega
        case rel => exact ⟨low, m, s + 1, G, rfl, rfl, by go_num, by omega, by omega, by omega, Lib.hid (by omega), rfl, Lib.hid (by have := hG.out; omega), hst⟩
    · rw [if_neg hlt] at hst
      replace hst := Lib.hid hst
      go_wp2
      go_ret2
      obtain rfl := hst.out
      exact ⟨rfl, hB0.out⟩
set_option maxRecDepth 100000 in
set_option maxHeartbeats 4000000 in
theorem hfind_calls (H : Sh.Hp) (root x : Int) (A : Option Addr) (c : Nat) (w : World) (hC : Nodes w A H) (ht : Sh.there H root = true) (hx : 0 ≤ x) (hx1 : x ≤ 1000000) (hpos : 0 < (Sh.nd H root).1.length) (hbig : (Sh.nd H root).1.length ≤ 100000) :
    Calls Tryz.prog 189 #[.agg #[], .slice A H.length c, .int .i64 root, .int .i64 x] w fun e w' => e = .returned (.tuple #[.bool (decide (Sh.gi (Sh.nd H root).1 (Sh.slot (Sh.nd H root).1 x (Sh.place (Sh.nd H root).1 x)) = x)), .int .i64 ((Sh.place (Sh.nd H root).1 x + 1 : Nat) : Int)]) ∧ Below w.heap.size w w' := by
  have hB0 := Lib.hid (show Below w.heap.size w (w.alloc (.cells #[] 157)) from (Below.refl _ _).alloc (Nat.le_refl _) _)
  obtain ⟨hr0, hr1⟩ := Sh.there_iff.1 ht
  have hC1 := Kd.C_alloc hC (.cells #[] 157)
  obtain ⟨ad, A0, c0, A1, c1, rfl, d0, d1, l0, g0, l1, g1⟩ := Nodes.at hC1 root hr0 hr1
  obtain ⟨i, rfl⟩ := Int.eq_ofNat_of_zero_le hr0
  simp only [Int.toNat_natCast] at d0 d1
  generalize (Sh.nd H (i : Int)).1 = l at *
  have hpl := Lib.hid (place_calls l x A0 c0 _ g0 hx hx1 hpos hbig)
  have hsl := Sh.slot_lt x (Sh.place l x) hpos
  generalize Sh.place l x = P at *
  generalize Sh.slot l x P = a at *
  obtain ⟨ad0, rfl, e0⟩ := at_int g0 a (by omega) (by omega)
  rw [Int.toNat_natCast] at e0
  generalize Sh.gi l a = y at *
  generalize l.length = n at *
  clear hC hC1 g0 g1 ht d1 l0
  go_enter Tryz.func189, Tryz.ntmps189
  go_wp2_with fail
  refine (hpl.out).mono ?_
  rintro e w1 ⟨rfl, rfl⟩
  go_wp2
  go_ret2
  exact ⟨rfl, hB0.out⟩
set_option maxRecDepth 100000 in
set_option maxHeartbeats 4000000 in
theorem tfind_calls (H : Sh.Hp) (root x lo hi t : Int) (l : List Int) (A : Option Addr) (c : Nat) (w : World) (hC : Nodes w A H) (T : Sh.Tr H root lo hi l t) (ht : t ≤ 100000) :
    Calls Tryz.prog 153 #[.agg #[], .slice A H.length c, .int .i64 root, .int .i64 x] w fun e w' => e = .returned (.tuple #[.bool (Sh.findT H x (t.toNat + 1) root 0).1, .int .i64 ((Sh.findT H x (t.toNat + 1) root 0).2 : Nat)]) ∧ Below w.heap.size w w' := by
  have hB0 := Lib.hid (show Below w.heap.size w (w.alloc (.cells #[] 119)) from (Below.refl _ _).alloc (Nat.le_refl _) _)
  obtain ⟨R, hR⟩ : ∃ R, R = Sh.findT H x (t.toNat + 1) root 0 := ⟨_, rfl⟩
  rw [← hR]
  have ht0 := T.nonneg
  have hTh := Lib.hid T
  have hCh := Lib.hid hC
  replace hR := Lib.hid hR
  clear hC T
  go_enter Tryz.func153, Tryz.ntmps153
  go_wp2
  go_loopg [2, 10] t.toNat (fun g v2 v10 wr => ∃ (r : Int) (s G : Nat) (lo' hi' t' : Int) (l' : List Int), v2 = .int .i64 r ∧ v10 = .int .i64 s ∧ Hid (Sh.Tr H r lo' hi' l' t') ∧ s + t' ≤ 200000 ∧ 0 ≤ t' ∧ Hid ((g : Int) = t') ∧ Hid (Below w.heap.size w wr) ∧ Hid (t' < G) ∧ Hid (R = Sh.findT H x G r s))
  case atStart => exact ⟨root, 0, t.toNat + 1, lo, hi, t, l, rfl, rfl, hTh, by omega, ht0, Lib.hid (by omega), hB0, Lib.hid (by omega), hR⟩
  case round =>
    obtain ⟨r, s, G, lo', hi', t', l', rfl, rfl, hT, hs, ht', hg, hB, hG, hRr⟩ := hrel
    obtain ⟨G, rfl⟩ : ∃ G', G = G' + 1 := ⟨G - 1, by have := hG.out; omega⟩
    have hst := Sh.findT_step H x G r s
    rw [← hRr.out] at hst
    by_cases c1 : r = -1
    · rw [if_pos c1] at hst
      replace hst := Lib.hid hst
      subst c1
      go_wp2
      go_ret2
      obtain rfl := hst.out
      exact ⟨rfl, hB.out⟩
    · rw [if_neg c1] at hst
      have ht1 : 1 ≤ t' := by rcases hT.out.root with ⟨h, _⟩ | ⟨_, _, _, h⟩; exact absurd h c1; exact h
      obtain ⟨la, lb, ha, hb, e1, e2, q1, q2, T1, T2, q3, q4⟩ := Sh.open_at hT.out ht1
      obtain ⟨r0, r1⟩ : 0 ≤ r ∧ r < (H.length : Int) := by rcases hT.out.root with ⟨h, _⟩ | ⟨h0, h1, _, _⟩; exact absurd h c1; exact ⟨h0, h1⟩
      obtain ⟨x', a', b', la', lb', ha', hb', en, _⟩ := hT.out.parts c1
      have hCw := Kd.C_below hCh.out hB.out
      obtain ⟨ad, A0, c0, A1, c1', rfl, d0, d1, l0, g0, l1, g1⟩ := Nodes.at hCw r r0 r1
      have hn0 : (Sh.nd H r).1.length = 2 := by rw [en]; rfl
      have hn1 : (Sh.nd H r).2.length = 2 := by rw [en]; rfl
      have g0' := fun o => Kd.C_alloc g0 o
      have g1' := fun o => Kd.C_alloc g1 o
      obtain ⟨ad0, rfl, _⟩ := at_zero g0 (by omega)
      obtain ⟨ad1, rfl, _, _⟩ := at_one g1 (by omega)
      have e0 : ∀ o, (wr.alloc o).cell? ad0 = some (.int .i64 (Sh.elt H r)) := fun o => by
        obtain ⟨_, e, h⟩ := at_zero (g0' o) (by omega)
        cases e
        exact h
      have f0 : ∀ o, (wr.alloc o).cell? ad1 = some (.int .i64 (Sh.lft H r)) := fun o => by
        obtain ⟨_, e, h, _⟩ := at_one (g1' o) (by omega)
        cases e
        exact h
      have f1 : ∀ o, (wr.alloc o).cell? ⟨ad1.block, ad1.off + 1, none⟩ = some (.int .i64 (Sh.rgt H r)) := fun o => by
        obtain ⟨_, e, _, h⟩ := at_one (g1' o) (by omega)
        cases e
        exact h
      rw [hn0] at d0 l0
      rw [hn1] at d1 l1
      have T1h := Lib.hid T1
      have T2h := Lib.hid T2
      have na := T1.nonneg
      have nb := T2.nonneg
      clear hCw g0 g1 g0' g1' hn0 hn1 en T1 T2 e1
      generalize Sh.elt H r = y at *
      generalize Sh.lft H r = a at *
      generalize Sh.rgt H r = b at *
      obtain ⟨i, rfl⟩ := Int.eq_ofNat_of_zero_le r0
      simp only [Int.toNat_natCast] at d0 d1
      have hB2 := Lib.hid (hB.out.alloc hB.out.size (.cells #[.slice (some ad0) 2 c0, .slice (some ad1) 2 c1'] 95))
      have hmx : ha + 1 ≤ t' ∧ hb + 1 ≤ t' := by omega
      clear e2
      by_cases c3 : x = y
      · rw [if_pos c3] at hst
        replace hst := Lib.hid hst
        have c3b : (x == y) = true := beq_iff_eq.mpr c3
        clear c3
        go_wp2
        go_ret2
        obtain rfl := hst.out
        exact ⟨rfl, hB2.out⟩
      rw [if_neg c3] at hst
      have c3b : (x == y) = false := beq_eq_false_iff_ne.mpr c3
      by_cases c4 : x < y
      · rw [if_pos c4] at hst
        replace hst := Lib.hid hst
        clear c3
        go_wp2
        go_roundg ha.toNat
        case measure => have := hg.out; omega
        case rel => exact ⟨a, s + 1, G, _, _, ha, la, rfl, by go_num, T1h, by omega, na, Lib.hid (by omega), hB2, Lib.hid (by have := hG.out; omega), hst⟩
      · rw [if_neg c4] at hst
        replace hst := Lib.hid hst
        clear c3
        go_wp2
        go_roundg hb.toNat
        case measure => have := hg.out; omega
        case rel => exact ⟨b, s + 1, G, _, _, hb, lb, rfl, by go_num, T2h, by omega, nb, Lib.hid (by omega), hB2, Lib.hid (by have := hG.out; omega), hst⟩
end Go.Proofs.YtbfedeedicnedaaGreat
end
section
namespace Go.Proofs.YtbfedeedicnedaaGreat
open Go.RowKit
open Go.Proofs.YtbfedeedicnedaaGreatW.PrintWords
def formV (f : Int) : Value := if f = 1 then .iface 154 (.agg #[]) else if f = 2 then .iface 155 (.agg #[]) else if f = 3 then .iface 119 (.agg #[]) else if f = 4 then .iface 156 (.agg #[]) else .iface 157 (.agg #[])
theorem five {f : Int} (h0 : 1 ≤ f) (h1 : f ≤ 5) : f = 1 ∨ f = 2 ∨ f = 3 ∨ f = 4 ∨ f = 5 := by omega
set_option maxRecDepth 100000 in
set_option maxHeartbeats 1000000 in
theorem known_calls (f : Int) (w : World) : Calls Tryz.prog 72 #[.int .i64 f] w fun e w' => e = .returned (.bool (decide (1 ≤ f) && decide (f ≤ 5))) ∧ w' = w := by
  by_cases h0 : 1 ≤ f
  · rw [decide_eq_true h0, Bool.true_and]
    go_enter Tryz.func72, Tryz.ntmps72
    go_wp2
    go_ret
    exact ⟨rfl, rfl⟩
  · rw [decide_eq_false h0, Bool.false_and]
    go_enter Tryz.func72, Tryz.ntmps72
    go_wp2
    go_ret
    exact ⟨rfl, rfl⟩
set_option maxRecDepth 100000 in
set_option maxHeartbeats 1000000 in
theorem forms_calls (w : World) : Calls Tryz.prog 100 #[] w fun e w' => e = .returned (.agg #[.iface 154 (.agg #[]), .iface 155 (.agg #[]), .iface 119 (.agg #[]), .iface 156 (.agg #[]), .iface 157 (.agg #[])]) ∧ Below w.heap.size w w' := by
  go_enter Tryz.func100, Tryz.ntmps100
  go_wp2
  refine bodyPost_ret (results_cell_row rfl _ _ w.heap.size 134 #[.iface 154 (.agg #[]), .iface 155 (.agg #[]), .iface 119 (.agg #[]), .iface 156 (.agg #[]), .iface 157 (.agg #[])] (0, 0) _ rfl (heap_alloc_new w _) Tryz.underlying134 rfl (by kernel_rfl)) rfl ?_
  exact ⟨rfl, (Below.refl _ _).alloc (Nat.le_refl _) _⟩
set_option maxRecDepth 100000 in
set_option maxHeartbeats 1000000 in
theorem tlist_calls (H : Sh.Hp) (root : Int) (A : Option Addr) (c : Nat) (w : World) (hC : Nodes w A H) :
    Calls Tryz.prog 155 #[.agg #[], .slice A H.length c, .int .i64 root] w fun e w' => Got w.heap.size w' e (Sh.listTree H root) ∧ Below w.heap.size w w' := by
  have hB0 := Lib.hid (show Below w.heap.size w (w.alloc (.cells #[] 119)) from (Below.refl _ _).alloc (Nat.le_refl _) _)
  have hcl := Lib.hid (twalk_calls 1026 H root (-1) 1024 A c (w.alloc (.cells #[] 119)) (Kd.C_alloc hC _) (by omega) (by omega) (by omega) (by omega))
  have hs := Lib.hid (show w.heap.size ≤ (w.alloc (.cells #[] 119)).heap.size by rw [World.size_alloc]; omega)
  unfold Sh.listTree
  generalize Sh.walkTree H 1026 root (-1) 1024 = r at *
  go_enter Tryz.func155, Tryz.ntmps155
  go_wp2_with fail
  refine (hcl.out).mono ?_
  rintro e w1 ⟨⟨v, rfl, ho⟩, hb⟩
  have ho1 := Lib.hid (Kd.R_lower ho hs.out)
  have hb1 := Lib.hid (Below.trans hB0.out (hb.mono hs.out))
  clear ho hb
  go_wp2
  go_ret2
  exact ⟨⟨_, rfl, ho1.out⟩, hb1.out⟩
set_option maxRecDepth 100000 in
set_option maxHeartbeats 1000000 in
theorem of_calls (f : Int) (w : World) (h0 : 1 ≤ f) (h1 : f ≤ 5) : Calls Tryz.prog 99 #[.int .i64 f] w fun e w' => e = .returned (formV f) ∧ Below w.heap.size w w' := by
  have hf := Lib.hid (forms_calls w)
  have i0 : ∀ W : World, (Instr.index 134 (.agg #[.iface 154 (.agg #[]), .iface 155 (.agg #[]), .iface 119 (.agg #[]), .iface 156 (.agg #[]), .iface 157 (.agg #[])]) (.int .i64 0)).run Tryz.prog W = .ok (.iface 154 (.agg #[])) W := fun W => by kernel_rfl
  have i1 : ∀ W : World, (Instr.index 134 (.agg #[.iface 154 (.agg #[]), .iface 155 (.agg #[]), .iface 119 (.agg #[]), .iface 156 (.agg #[]), .iface 157 (.agg #[])]) (.int .i64 1)).run Tryz.prog W = .ok (.iface 155 (.agg #[])) W := fun W => by kernel_rfl
  have i2 : ∀ W : World, (Instr.index 134 (.agg #[.iface 154 (.agg #[]), .iface 155 (.agg #[]), .iface 119 (.agg #[]), .iface 156 (.agg #[]), .iface 157 (.agg #[])]) (.int .i64 2)).run Tryz.prog W = .ok (.iface 119 (.agg #[])) W := fun W => by kernel_rfl
  have i3 : ∀ W : World, (Instr.index 134 (.agg #[.iface 154 (.agg #[]), .iface 155 (.agg #[]), .iface 119 (.agg #[]), .iface 156 (.agg #[]), .iface 157 (.agg #[])]) (.int .i64 3)).run Tryz.prog W = .ok (.iface 156 (.agg #[])) W := fun W => by kernel_rfl
  have i4 : ∀ W : World, (Instr.index 134 (.agg #[.iface 154 (.agg #[]), .iface 155 (.agg #[]), .iface 119 (.agg #[]), .iface 156 (.agg #[]), .iface 157 (.agg #[])]) (.int .i64 4)).run Tryz.prog W = .ok (.iface 157 (.agg #[])) W := fun W => by kernel_rfl
  rcases five h0 h1 with rfl | rfl | rfl | rfl | rfl
  all_goals
    go_enter Tryz.func99, Tryz.ntmps99
    go_wp2_with fail
    refine (hf.out).mono ?_
    rintro e w1 ⟨rfl, hb⟩
    replace hb := Lib.hid hb
    go_wp2
    go_ret
    exact ⟨rfl, hb.out⟩
def GotX (ex : Prop) (base : Nat) (w' : World) (e : Ending) (r : Option (List Int)) : Prop := ∃ v l, e = .returned (.tuple #[v, .bool r.isSome]) ∧ Ints w' base v l ∧ l.length = (r.getD []).length ∧ (ex → l = r.getD [])
theorem Got.x {base : Nat} {w' : World} {e : Ending} {r : Option (List Int)} (h : Got base w' e r) (ex : Prop) : GotX ex base w' e r := by
  obtain ⟨v, rfl, ho⟩ := h
  exact ⟨v, _, rfl, ho, rfl, fun _ => rfl⟩
def Digital (f : Int) : Prop := f = 2 ∨ f = 4
def ListsF (H : Sh.Hp) (f : Int) : Prop := ∀ (ty k : Nat), (ty = 154 ∧ k = 163 ∧ f = 1) ∨ (ty = 155 ∧ k = 168 ∧ f = 2) ∨ (ty = 119 ∧ k = 155 ∧ f = 3) ∨ (ty = 156 ∧ k = 181 ∧ f = 4) ∨ (ty = 157 ∧ k = 191 ∧ f = 5) → ∀ (root : Int) (A : Option Addr) (c : Nat) (w : World), Nodes w A H →
  Calls Tryz.prog k #[.agg #[], .slice A H.length c, .int .i64 root] w fun e w' => GotX (¬ Digital f) w.heap.size w' e (Sh.list f H root) ∧ Below w.heap.size w w'
theorem listsF_plain {H : Sh.Hp} {f : Int} (hbig : ∀ p ∈ H, p.1.length ≤ 1000000) (hf : ¬ Digital f) : ListsF H f := by
  intro ty k hk root A c w hC
  unfold Digital at hf
  rcases hk with ⟨rfl, rfl, rfl⟩ | ⟨rfl, rfl, rfl⟩ | ⟨rfl, rfl, rfl⟩ | ⟨rfl, rfl, rfl⟩ | ⟨rfl, rfl, rfl⟩
  · exact (alist_calls H root A c w hC hbig).mono fun e w' h => ⟨h.1.x _, h.2⟩
  · exact absurd (.inl rfl) hf
  · exact (tlist_calls H root A c w hC).mono fun e w' h => ⟨h.1.x _, h.2⟩
  · exact absurd (.inr rfl) hf
  · exact (hlist_calls H root A c w hC hbig).mono fun e w' h => ⟨h.1.x _, h.2⟩
def LGot (D : Prop) (base : Nat) (w' : World) (e : Ending) (R : List Int × Int) : Prop := ∃ v l, e = .returned (.tuple #[v, .int .i64 R.2]) ∧ Ints w' base v l ∧ l.length = R.1.length ∧ (D → l = R.1)
set_option maxRecDepth 100000 in
set_option maxHeartbeats 1000000 in
theorem listed_calls (H : Sh.Hp) (f root count : Int) (A : Option Addr) (c : Nat) (w : World) (hC : Nodes w A H) (hL : ListsF H f) :
    Calls Tryz.prog 60 #[.slice A H.length c, .agg #[.int .i64 f, .int .i64 root, .int .i64 count]] w fun e w' => LGot (¬ Digital f) w.heap.size w' e (Sh.listed H f root count) ∧ Below w.heap.size w w' := by
  have hB0 := Lib.hid (show Below w.heap.size w (w.alloc (.cells #[.int .i64 f, .int .i64 root, .int .i64 count] 25)) from (Below.refl _ _).alloc (Nat.le_refl _) _)
  obtain ⟨R, hR⟩ : ∃ R, R = Sh.listed H f root count := ⟨_, rfl⟩
  rw [← hR]
  unfold Sh.listed at hR
  by_cases h1 : 3000 < H.length
  · rw [if_pos h1] at hR
    subst hR
    go_enter Tryz.func60, Tryz.ntmps60
    go_wp2
    go_ret2
    exact ⟨⟨_, [], rfl, Kd.R_nil _ _ _ _ _, rfl, fun _ => rfl⟩, hB0.out⟩
  rw [if_neg h1] at hR
  have hkn := Lib.hid (fun W => known_calls f W)
  by_cases hf : 1 ≤ f ∧ f ≤ 5
  case neg =>
    have hkf : (decide (1 ≤ f) && decide (f ≤ 5)) = false := by rw [Bool.and_eq_false_iff, decide_eq_false_iff_not, decide_eq_false_iff_not]; omega
    rw [hkf] at hkn
    have hln : Sh.list f H root = none := by
      unfold Sh.list
      rw [if_neg (by omega), if_neg (by omega), if_neg (by omega), if_neg (by omega), if_neg (by omega)]
    rw [hln] at hR
    have hR' : R = ([], 2) := hR
    clear hR
    subst hR'
    clear hkf hln hL
    go_enter Tryz.func60, Tryz.ntmps60
    go_wp2_with fail
    refine (hkn.out _).mono ?_
    rintro e w1 ⟨rfl, rfl⟩
    go_wp2
    go_ret2
    exact ⟨⟨_, [], rfl, Kd.R_nil _ _ _ _ _, rfl, fun _ => rfl⟩, hB0.out⟩
  case pos =>
    obtain ⟨h2, h3⟩ := hf
    have hkf : (decide (1 ≤ f) && decide (f ≤ 5)) = true := by rw [decide_eq_true h2, decide_eq_true h3]; rfl
    rw [hkf] at hkn
    have hof := Lib.hid (fun W => of_calls f W h2 h3)
    obtain ⟨ty, k, hfv, hk, hm⟩ : ∃ (ty k : Nat), formV f = .iface ty (.agg #[]) ∧ ((ty = 154 ∧ k = 163 ∧ f = 1) ∨ (ty = 155 ∧ k = 168 ∧ f = 2) ∨ (ty = 119 ∧ k = 155 ∧ f = 3) ∨ (ty = 156 ∧ k = 181 ∧ f = 4) ∨ (ty = 157 ∧ k = 191 ∧ f = 5)) ∧ (∀ W : World, (method 312 ty (.agg #[]) "sward/shape.list").run Tryz.prog W = .ok (k, .agg #[]) W) := by
      rcases five h2 h3 with rfl | rfl | rfl | rfl | rfl
      · exact ⟨154, 163, rfl, by omega, fun _ => by kernel_rfl⟩
      · exact ⟨155, 168, rfl, by omega, fun _ => by kernel_rfl⟩
      · exact ⟨119, 155, rfl, by omega, fun _ => by kernel_rfl⟩
      · exact ⟨156, 181, rfl, by omega, fun _ => by kernel_rfl⟩
      · exact ⟨157, 191, rfl, by omega, fun _ => by kernel_rfl⟩
    have hls := Lib.hid (hL ty k hk root)
    rw [hfv] at hof
    obtain ⟨r, hr⟩ : ∃ r, r = Sh.list f H root := ⟨_, rfl⟩
    rw [← hr] at hls hR
    obtain ⟨w2, hw2⟩ : ∃ w2, w2 = w.alloc (.cells #[.int .i64 f, .int .i64 root, .int .i64 count] 25) := ⟨_, rfl⟩
    have hsz := Lib.hid (show w.heap.size + 1 ≤ w2.heap.size by rw [hw2, World.size_alloc]; omega)
    have hc0 : ∀ W, Below (w.heap.size + 1) w2 W → W.cell? ⟨w.heap.size, 0, none⟩ = some (.int .i64 f) ∧ W.cell? ⟨w.heap.size, 1, none⟩ = some (.int .i64 root) ∧ W.cell? ⟨w.heap.size, 2, none⟩ = some (.int .i64 count) := fun W hW => by
      refine ⟨?_, ?_, ?_⟩
      all_goals
        rw [hW.cell (p := ⟨w.heap.size, _, none⟩) (by show w.heap.size < _; omega), hw2]
        simp
    have hc3 := Lib.hid (fun W hW => (hc0 W hW).2.2)
    have hcc := Lib.hid (fun W hW => (⟨hW, (hc0 W hW).1, (hc0 W hW).2.1⟩ : _ ∧ _ ∧ _))
    have hC2 : Nodes w2 A H := by rw [hw2]; exact Kd.C_alloc hC _
    have hNod := Lib.hid (fun W (hW : Below (w.heap.size + 1) w2 W) => (Kd.C_below hC2 (hW.mono (by rw [hw2, World.size_alloc]; omega)) : Nodes W A H))
    have hBd := Lib.hid (show Below (w.heap.size + 1) w2 w2.drew from (Below.refl _ _).drew)
    have hB2 := Lib.hid (show Below w.heap.size w w2 by rw [hw2]; exact hB0.out)
    have hexd := Lib.hid (fun (h : ¬ Digital f) => h)
    obtain ⟨D, hD⟩ : ∃ D, D = ¬ Digital f := ⟨_, rfl⟩
    rw [← hD] at hls ⊢
    replace hR := Lib.hid hR
    clear hC2 hc0 hC hL hfv hkf hr hD hexd hB0
    rcases hk with ⟨rfl, rfl, -⟩ | ⟨rfl, rfl, -⟩ | ⟨rfl, rfl, -⟩ | ⟨rfl, rfl, -⟩ | ⟨rfl, rfl, -⟩
    all_goals
      go_enter Tryz.func60, Tryz.ntmps60
      go_wp2_with fail
      refine (hkn.out _).mono ?_
      rintro e w1 ⟨rfl, rfl⟩
      go_wp2
      rw [← hw2]
      clear hw2
      go_region_held3 (fun W' => Below (w.heap.size + 1) w2 W' ∧ W'.cell? ⟨w.heap.size, 0, none⟩ = some (.int .i64 f) ∧ W'.cell? ⟨w.heap.size, 1, none⟩ = some (.int .i64 root))
        (first
          | exact hcc.out _ (by assumption)
          | exact hcc.out _ hBd.out
          | fail)
        (first
          | (go_at_call 99; refine (hof.out _).mono ?_; rintro e w3 ⟨rfl, hb1⟩; have hB3 : Below (w.heap.size + 1) w2 w3 := Below.trans hBd.out (hb1.mono hsz.out); replace hb1 := Lib.hid hb1)
          | (refine (hls.out _ _ _ ?hl).mono ?_; (case hl => exact hNod.out _ (by assumption)); rintro e w4 ⟨⟨v1, l1, rfl, ho1, ho2, ho3⟩, hb2⟩; have hB4 : Below (w.heap.size + 1) w2 w4 := Below.trans (by assumption) (hb2.mono (Nat.le_trans hsz.out (Below.size (by assumption)))); replace ho1 := Lib.hid ho1; replace ho2 := Lib.hid ho2; replace ho3 := Lib.hid ho3; replace hb2 := Lib.hid hb2))
      replace hB4 := Lib.hid (show Below (w.heap.size + 1) w2 w4 from by assumption)
      have hct := hc3.out _ hB4.out
      have hBf := Lib.hid (Below.trans hB2.out (hB4.out.mono (by omega)))
      have hof3 := Lib.hid (Kd.R_lower ho1.out (show w.heap.size ≤ w3.heap.size from Nat.le_trans (by have := hsz.out; omega) (Below.size (show Below (w.heap.size + 1) w2 w3 from by assumption))))
      rcases r with _ | l
      · obtain rfl : R = ([], 2) := hR.out
        go_wp2
        go_ret2
        exact ⟨⟨_, [], rfl, Kd.R_nil _ _ _ _ _, rfl, fun _ => rfl⟩, hBf.out⟩
      · have hlen : l1.length = l.length := ho2.out
        obtain ⟨A5, c5, rfl⟩ := Kd.R_slice hof3.out
        have hRl : R = if (l.length : Int) = count then (l, 0) else ([], 2) := hR.out
        rw [← hlen] at hRl
        obtain ⟨n, hn⟩ : ∃ n, n = l1.length := ⟨_, rfl⟩
        rw [← hn] at hRl hof3 ⊢
        replace hn := Lib.hid hn
        replace hlen := Lib.hid hlen
        by_cases hcn : (n : Int) = count
        · rw [if_pos hcn] at hRl
          subst hRl
          have hcb : ((n : Int) != count) = false := bne_eq_false_iff_eq.mpr hcn
          clear hcn
          go_wp2
          go_ret2
          exact ⟨⟨_, l1, rfl, hof3.out, hlen.out, fun h => ho3.out h⟩, hBf.out⟩
        · rw [if_neg hcn] at hRl
          subst hRl
          have hcb : ((n : Int) != count) = true := bne_iff_ne.mpr hcn
          clear hcn
          go_wp2
          go_ret2
          exact ⟨⟨_, [], rfl, Kd.R_nil _ _ _ _ _, rfl, fun _ => rfl⟩, hBf.out⟩
end Go.Proofs.YtbfedeedicnedaaGreat
end
section
namespace Go.Proofs.YtbfedeedicnedaaGreat.Sh
theorem and_half (a b : Nat) : (a &&& b) / 2 = (a / 2) &&& (b / 2) := by
  apply Nat.eq_of_testBit_eq
  intro i
  rw [← Nat.testBit_succ, Nat.testBit_and, Nat.testBit_and, ← Nat.testBit_succ, ← Nat.testBit_succ]
theorem and_two (a b : Nat) : (a &&& b) % 2 = (a % 2) * (b % 2) := by
  have h : (a &&& b).testBit 0 = (a.testBit 0 && b.testBit 0) := Nat.testBit_and _ _ _
  rw [Nat.testBit_zero, Nat.testBit_zero, Nat.testBit_zero] at h
  have h3 := Nat.mod_two_eq_zero_or_one (a &&& b)
  rcases Nat.mod_two_eq_zero_or_one a with ha | ha <;> rcases Nat.mod_two_eq_zero_or_one b with hb | hb <;> rcases h3 with h3 | h3 <;> rw [ha, hb, h3] at h ⊢ <;> simp at h
theorem ones_len_succ (w b : Nat) : (ones w (b + 1)).length = w % 2 + (ones (w / 2) b).length := by
  unfold ones
  rw [List.length_map, List.length_map, List.range_succ_eq_map, List.filter_cons]
  have h : ((List.map Nat.succ (List.range b)).filter fun i => w.testBit i).length = ((List.range b).filter fun i => (w / 2).testBit i).length := by
    rw [List.filter_map, List.length_map]
    congr 1
    apply List.filter_congr
    intro i _
    show w.testBit (i + 1) = _
    rw [Nat.testBit_succ]
  rcases Nat.mod_two_eq_zero_or_one w with h0 | h0
  · rw [if_neg (by simp [Nat.testBit_zero, h0]), h, h0]; omega
  · rw [if_pos (by simp [Nat.testBit_zero, h0]), List.length_cons, h, h0]; omega
theorem ones_drop : ∀ (b w : Nat), w ≠ 0 → w < 2 ^ b → (ones (w &&& (w - 1)) b).length + 1 = (ones w b).length := by
  intro b
  induction b with
  | zero => intro w h0 h; simp at h; omega
  | succ b ih =>
    intro w h0 h
    rw [ones_len_succ, ones_len_succ, and_half, and_two]
    rcases Nat.mod_two_eq_zero_or_one w with hw | hw
    · have e : (w - 1) / 2 = w / 2 - 1 := by omega
      rw [e, hw, Nat.zero_mul]
      have := ih (w / 2) (by omega) (by rw [Nat.pow_succ] at h; omega)
      omega
    · have e : (w - 1) / 2 = w / 2 := by omega
      have e2 : (w - 1) % 2 = 0 := by omega
      rw [e, e2, hw, Nat.and_self]
      omega
theorem ones_zero (b : Nat) : (ones 0 b).length = 0 := by
  unfold ones
  simp
theorem ones_le (w b : Nat) : (ones w b).length ≤ b := by
  unfold ones
  rw [List.length_map]
  have := List.length_filter_le (fun i => w.testBit i) (List.range b)
  rw [List.length_range] at this
  exact this
end Go.Proofs.YtbfedeedicnedaaGreat.Sh
end
section
namespace Go.Proofs.YtbfedeedicnedaaGreat
open Go.RowKit
theorem uponIn_of_upon {l n : Nat} {P : Program} {o : Oper} {a : Act} {next : Act → World → Prop} {Q : Exit → Act → World → Prop} (hQ : ∀ a w, ¬ Q .outgrown a w) {r : Result Next} (h : o.upon P a next Q r) :
    o.uponIn (Fence.wide.inRound l) n P a next Q r := by
  have hlo : ¬ LetsOut Q := fun ⟨a, w, h⟩ => hQ a w h
  cases r with
  | ok x w' =>
    cases x <;> first
    | exact h
    | exact h.elim
    | (refine ⟨fun h => by simp [Fence.wide] at h, ?_⟩
       exact (callsIn_wide (n := n - 1)).2 h)
    | (refine ⟨fun h => by simp [Fence.wide] at h, ?_⟩
       intro c cs _
       obtain ⟨v, w1, h1, h2⟩ := h c cs
       exact ⟨v, w1, h1, stepsIn_wide.2 h2⟩)
  | halt x w' => cases x <;> first | exact h | exact h.elim
theorem wpOpsIn_of_wpOps {l n : Nat} {P : Program} {ops : Array Oper} {Q : Exit → Act → World → Prop} (hQ : ∀ a w, ¬ Q .outgrown a w) (hnd : ∀ (i : Nat) (o : Oper), ops[i]? = some o → ∀ c, o.op ≠ .defer c) :
    ∀ (s : List Nat) (a : Act) (w : World), wpOps P ops Q s a w → wpOpsIn (Fence.wide.inRound l) n P ops Q s a w
  | [], a, w, h => h
  | i :: s, a, w, h => by
    simp only [wpOps, wpOpsIn] at *
    cases ho : ops[i]? with
    | none => rw [ho] at h; exact wpOpsIn_of_wpOps hQ hnd s a w h
    | some o =>
      rw [ho] at h
      simp only at h ⊢
      by_cases hw : Region.wanted o (yielded ops a.tmps) = true
      · rw [if_pos hw] at h ⊢
        rcases h with h | ⟨_, a', w', h⟩
        · refine ⟨fun _ _ => trivial, ?_⟩
          rw [show (Fence.wide.inRound l).round = some l from rfl, Oper.semAt_some l _ o (hnd i o ho)]
          refine uponIn_of_upon hQ ?_
          have h' : o.upon P a (wpOps P ops Q s) Q ((execOp a.eval o).run P w) := h
          exact Oper.wp_mono (o := o) (P := P) (Q := Q) (a := a) (w := w) (fun a w => wpOpsIn_of_wpOps hQ hnd s a w) h'
        · exact (hQ _ _ h).elim
      · rw [if_neg hw] at h ⊢
        exact ⟨fun _ _ => trivial, wpOpsIn_of_wpOps hQ hnd s _ w h⟩
structure KeepI (Ic : Nat → Prop) (W W' : World) : Prop where
  size : W.heap.size ≤ W'.heap.size
  own : ∀ k, Ic k → W'.heap[k]? = W.heap[k]?
theorem KeepI.refl {Ic : Nat → Prop} (W : World) : KeepI Ic W W := ⟨Nat.le_refl _, fun _ _ => rfl⟩
theorem KeepI.trans {Ic : Nat → Prop} {A B C : World} (h : KeepI Ic A B) (k : KeepI Ic B C) : KeepI Ic A C := ⟨Nat.le_trans h.size k.size, fun j hj => (k.own j hj).trans (h.own j hj)⟩
theorem KeepI.putObj {Ic : Nat → Prop} (W : World) (r : Nat) (o : Obj) (h : ¬ Ic r) : KeepI Ic W (W.putObj r o) := ⟨by simp, fun k hk => World.putObj_heap_other (fun e => h (e ▸ hk))⟩
theorem KeepI.imp {Ic Ic' : Nat → Prop} {A B : World} (h : KeepI Ic A B) (hi : ∀ k, Ic' k → Ic k) : KeepI Ic' A B := ⟨h.size, fun k hk => h.own k (hi k hk)⟩
def Iter {α : Type} (P : Program) (gf : Nat) (lb : Array Value) (encs : α → Array Value) (Wok : World → Prop) (Ic : World → Nat → Prop) (St : World → World → World → Prop) (More : List α → α → Prop) (Full : List α → Prop) (Fell : List PanicEntry → List α → Prop) : Prop :=
  ∀ (l : Nat) (J Jx : List α → World → Prop) (W0 : World), Wok W0 → (∀ p W W', J p W → St W0 W W' → J p W') → (∀ p W W', Jx p W → St W0 W W' → Jx p W') →
    (∀ pre x W, J pre W → More pre x → W0.heap.size ≤ W.heap.size → (∀ k, Ic W0 k → k < W.heap.size) → YieldAt Fence.wide 1 P l (encs x) W fun e W' => (e = .returned (.bool true) ∧ J (pre ++ [x]) W' ∧ KeepI (Ic W0) W W') ∨ (e = .returned (.bool false) ∧ Jx (pre ++ [x]) W' ∧ KeepI (Ic W0) W W')) →
    J [] W0 →
    Calls P gf (#[.func (.yield l) #[] #[]] ++ lb) W0 fun e W' => (∃ v, e = .returned v ∧ ((∃ xs, Full xs ∧ J xs W') ∨ (∃ pre, Jx pre W'))) ∨ (∃ c xs, e = .panicked c ∧ Fell c xs ∧ J xs W')
def bodyPost1 {α : Type} (Ic : Nat → Prop) (D : Nat) (I : List α → World → Prop) (Ix : Code → List α → World → Prop) (W : World) (p : List α) : Exit → Act → World → Prop
  | .normal, _, W' => KeepI (fun k => Ic k ∨ k = D ∨ k = D + 1) W W' ∧ I p W'
  | .ret, _, W' => KeepI (fun k => Ic k ∨ k = D ∨ k = D + 1) W W' ∧ Ix .ret p W'
  | .exit id, _, W' => KeepI (fun k => Ic k ∨ k = D ∨ k = D + 1) W W' ∧ Ix (.exit id) p W'
  | .goto t, _, W' => KeepI (fun k => Ic k ∨ k = D ∨ k = D + 1) W W' ∧ Ix (.goto t) p W'
  | .panic _, _, _ => False
  | .outgrown, _, _ => False
theorem rf_law {α : Type} {P : Program} {g : Operand} {ps : Array Tmp} {assign body : Code} {Q : Exit → Act → World → Prop} {a : Act} {w : World}
    {gf : Nat} {lb : Array Value} (hg : a.eval g = .func (.func gf) #[] lb) (eg : ∀ args w, (callFunc gf args).run P w = .ok (.enter gf args) w)
    {encs : α → Array Value} {Wok : World → Prop} {Ic : World → Nat → Prop} {St : World → World → World → Prop} {More : List α → α → Prop} {Full : List α → Prop} {Fell : List PanicEntry → List α → Prop}
    (hit : Iter P gf lb encs Wok Ic St More Full Fell) (hps : ∀ x, (encs x).size = ps.size)
    (hWok : ∀ W, Below w.heap.size w W → W.heap.size = w.heap.size + 2 → Wok W)
    (hIc : ∀ W k, W.heap.size = w.heap.size + 2 → Ic W k → k ≠ w.heap.size ∧ k ≠ w.heap.size + 1)
    (hSt : ∀ W0 W W', W0.heap.size = w.heap.size + 2 → w.heap.size + 2 ≤ W.heap.size → St W0 W W' → ∀ k, k < w.heap.size + 2 → W'.heap[k]? = W.heap[k]?)
    (I : List α → World → Prop) (Ix : Code → List α → World → Prop) (Ax : α → Act → World → Prop)
    (hIst : ∀ p W0 W W', W0.heap.size = w.heap.size + 2 → I p W → St W0 W W' → I p W') (hIxst : ∀ c p W0 W W', W0.heap.size = w.heap.size + 2 → Ix c p W → St W0 W W' → Ix c p W')
    (hIp : ∀ p W (o : Obj), I p W → I p (W.putObj (w.heap.size + 1) o)) (hIxp : ∀ c p W (o : Obj), Ix c p W → Ix c p (W.putObj (w.heap.size + 1) o)) (hAp : ∀ x a W (o : Obj), Ax x a W → Ax x a (W.putObj (w.heap.size + 1) o))
    (h0 : ∀ W, Below w.heap.size w W → W.heap.size = w.heap.size + 2 → I [] W)
    (hassign : ∀ (pre : List α) (x : α) (W : World) (K : Act → World → Prop), I pre W → More pre x → w.heap.size + 2 ≤ W.heap.size →
      (∀ a' W', Ax x a' W' → I pre W' → KeepI (fun k => k < W.heap.size) W W' → K a' W') →
      assign.wpIn (Fence.wide.inRound (w.heap.size + 1)) 1 P (Exit.then K (fun _ _ _ => False)) { tmps := (ps.zip (encs x)).foldl (fun t (p, v) => t.setIfInBounds p v) a.tmps, defers := [] } W)
    (hbody : ∀ (W0 : World) (pre : List α) (x : α) (a' : Act) (W : World), W0.heap.size = w.heap.size + 2 → w.heap.size + 2 ≤ W.heap.size → (∀ k, Ic W0 k → k < W.heap.size) → I pre W → Ax x a' W → More pre x → body.wpIn (Fence.wide.inRound (w.heap.size + 1)) 1 P (bodyPost1 (Ic W0) w.heap.size I Ix W (pre ++ [x])) a' W)
    (hdone : ∀ (xs : List α) (W : World), Full xs → I xs W → W.heap[w.heap.size]? = some (.deferred (some [])) → Q .normal { a with defers := { target := .collected w.heap.size, args := #[] } :: a.defers } W)
    (hstop : ∀ (c : Code) (pre : List α) (W : World), Ix c pre W → W.heap[w.heap.size]? = some (.deferred (some [])) → c.wpIn Fence.wide 3 P Q { a with defers := { target := .collected w.heap.size, args := #[] } :: a.defers } W)
    (hfell : ∀ (chain : List PanicEntry) (xs : List α) (W : World), Fell chain xs → I xs W → W.heap[w.heap.size]? = some (.deferred (some [])) → Q (.panic chain) { a with defers := { target := .collected w.heap.size, args := #[] } :: a.defers } W) :
    (Code.rangeFunc g ps assign body).wpIn Fence.wide 3 P Q a w := by
  refine wpIn_rangeFunc ?_
  intro fn _
  obtain ⟨rec, hrec⟩ : ∃ rec : LoopState → Option Code → Loop, rec = fun st pe => { state := st, pending := pe, fn, tmps := a.tmps, params := ps, assign, body, defers := w.heap.size } := ⟨_, rfl⟩
  obtain ⟨W1, hW1⟩ : ∃ W1, (w.alloc (.deferred (some []))).alloc (.loop (rec .ready none)) = W1 := ⟨_, rfl⟩
  have hs1 : W1.heap.size = w.heap.size + 2 := by rw [← hW1]; simp
  have hL1 : W1.heap[w.heap.size + 1]? = some (.loop (rec .ready none)) := by
    rw [← hW1]; have := World.alloc_heap_new (w.alloc (.deferred (some []))) (.loop (rec .ready none)); rwa [World.size_alloc] at this
  have hK1 : W1.heap[w.heap.size]? = some (.deferred (some [])) := by
    rw [← hW1]; exact (Below.heap_alloc _ _ _ (by simp)).trans (World.alloc_heap_new w _)
  have hb1 : Below w.heap.size w W1 := by
    rw [← hW1]; exact ((Below.refl _ w).alloc (Nat.le_refl _) _).alloc (by simp) _
  refine ⟨w.heap.size + 1, [{ target := .collected w.heap.size, args := #[] }], W1, { target := .fn (.func gf) lb, args := #[.func (.yield (w.heap.size + 1)) #[] #[]] }, W1, gf,
    #[.func (.yield (w.heap.size + 1)) #[] #[]] ++ lb, W1, ?_, ?_, fun _ _ => trivial, ?_, fun _ => by omega, ?_⟩
  · rw [← hW1, hrec]; exact run_enterLoop_outer _ _ _ _ _
  · simp only [resolve, hg]
    simp [go_sem]
  · simp [invoke, go_sem, eg]
  · refine callsIn_wide.2 ((hit (w.heap.size + 1)
      (fun p W => I p W ∧ W.heap[w.heap.size + 1]? = some (.loop (rec .ready none)) ∧ W.heap[w.heap.size]? = some (.deferred (some [])))
      (fun p W => ∃ c, Ix c p W ∧ W.heap[w.heap.size + 1]? = some (.loop (rec .done (some c))) ∧ W.heap[w.heap.size]? = some (.deferred (some [])))
      W1 (hWok _ hb1 hs1)
      (fun p A B hs hst => ⟨hIst p W1 A B hs1 hs.1 hst, (hSt _ _ _ hs1 (Array.getElem?_eq_some_iff.1 hs.2.1).1 hst _ (by omega)).trans hs.2.1, (hSt _ _ _ hs1 (Array.getElem?_eq_some_iff.1 hs.2.1).1 hst _ (by omega)).trans hs.2.2⟩)
      (fun p A B hs hst => by
        obtain ⟨c, hc, hl, hk⟩ := hs
        exact ⟨c, hIxst c p W1 A B hs1 hc hst, (hSt _ _ _ hs1 (Array.getElem?_eq_some_iff.1 hl).1 hst _ (by omega)).trans hl, (hSt _ _ _ hs1 (Array.getElem?_eq_some_iff.1 hl).1 hst _ (by omega)).trans hk⟩)
      ?_ ⟨h0 _ hb1 hs1, hL1, hK1⟩).mono ?_)
    · rintro pre x W ⟨hi, hl, hk⟩ hmore hsz hIcs
      rw [hs1] at hsz
      have hy := run_yield (P := P) (args := encs x) hl (by rw [hrec]; simp [hps])
      rw [hrec] at hy
      refine ⟨fn, _, assign, body, hy, roundIn_of_wpIn (F := Fence.wide) trivial (hassign pre x W _ hi hmore hsz ?_)⟩
      intro a' W' hax hi' hkeep
      have hl' : W'.heap[w.heap.size + 1]? = some (.loop (rec .ready none)) := (hkeep.own _ (by show w.heap.size + 1 < W.heap.size; omega)).trans hl
      have hk' : W'.heap[w.heap.size]? = some (.deferred (some [])) := (hkeep.own _ (by show w.heap.size < W.heap.size; omega)).trans hk
      have hsz' : w.heap.size + 2 ≤ W'.heap.size := Nat.le_trans hsz hkeep.size
      refine ⟨_, run_beginRound hl' (by rw [hrec]), ?_⟩
      have hlt : w.heap.size + 1 < W'.heap.size := by omega
      have hl2 : (W'.putObj (w.heap.size + 1) (.loop { rec .ready none with state := .busy })).heap[w.heap.size + 1]? = some (.loop { rec .ready none with state := .busy }) := World.putObj_heap_same hlt
      have hk2 : (W'.putObj (w.heap.size + 1) (.loop { rec .ready none with state := .busy })).heap[w.heap.size]? = some (.deferred (some [])) := (World.putObj_heap_other (by omega)).trans hk'
      refine wpIn_mono (hbody W1 pre x a' _ hs1 (by simpa using hsz') (fun k hk => by simpa using Nat.lt_of_lt_of_le (hIcs k hk) hkeep.size) (hIp _ _ _ hi') (hAp _ _ _ _ hax) hmore) ?_
      have hIn : ¬ Ic W1 (w.heap.size + 1) := fun h => (hIc W1 _ hs1 h).2 rfl
      have hIlt : ∀ k, Ic W1 k → k < W.heap.size → W'.heap[k]? = W.heap[k]? := fun k _ h => hkeep.own k h
      have fin : ∀ (jump : Option Code) (W3 : World), KeepI (fun k => Ic W1 k ∨ k = w.heap.size ∨ k = w.heap.size + 1) (W'.putObj (w.heap.size + 1) (.loop { rec .ready none with state := .busy })) W3 →
          (Instr.endRound (w.heap.size + 1) jump).run P W3 = .ok (.bool jump.isNone) (W3.putObj (w.heap.size + 1) (.loop (rec (if jump.isNone then .ready else .done) jump))) ∧
          (W3.putObj (w.heap.size + 1) (.loop (rec (if jump.isNone then .ready else .done) jump))).heap[w.heap.size + 1]? = some (.loop (rec (if jump.isNone then .ready else .done) jump)) ∧
          (W3.putObj (w.heap.size + 1) (.loop (rec (if jump.isNone then .ready else .done) jump))).heap[w.heap.size]? = some (.deferred (some [])) ∧
          KeepI (Ic W1) W' (W3.putObj (w.heap.size + 1) (.loop (rec (if jump.isNone then .ready else .done) jump))) := fun jump W3 hk3 => by
        have hl3 := (hk3.own _ (.inr (.inr rfl))).trans hl2
        have := run_endRound (P := P) jump hl3
        rw [hrec] at this ⊢
        refine ⟨this, World.putObj_heap_same (Array.getElem?_eq_some_iff.1 hl3).1, (World.putObj_heap_other (by omega)).trans ((hk3.own _ (.inr (.inl rfl))).trans hk2), ?_⟩
        exact ((KeepI.putObj W' _ _ hIn).trans (hk3.imp (fun k hk => .inl hk))).trans (KeepI.putObj W3 _ _ hIn)
      have hk1 : KeepI (Ic W1) W W' := hkeep.imp hIcs
      rintro e a3 W3 hp
      cases e with
      | normal =>
        obtain ⟨hk3, hi3⟩ := hp
        obtain ⟨hr, hl4, hk4, hkp⟩ := fin none W3 hk3
        exact ⟨_, _, hr, .inl ⟨rfl, ⟨hIp _ _ _ hi3, hl4, hk4⟩, hk1.trans hkp⟩⟩
      | ret =>
        obtain ⟨hk3, hi3⟩ := hp
        obtain ⟨hr, hl4, hk4, hkp⟩ := fin (some .ret) W3 hk3
        exact ⟨_, _, hr, .inr ⟨rfl, ⟨.ret, hIxp _ _ _ _ hi3, hl4, hk4⟩, hk1.trans hkp⟩⟩
      | exit id =>
        obtain ⟨hk3, hi3⟩ := hp
        obtain ⟨hr, hl4, hk4, hkp⟩ := fin (some (.exit id)) W3 hk3
        exact ⟨_, _, hr, .inr ⟨rfl, ⟨.exit id, hIxp _ _ _ _ hi3, hl4, hk4⟩, hk1.trans hkp⟩⟩
      | goto t =>
        obtain ⟨hk3, hi3⟩ := hp
        obtain ⟨hr, hl4, hk4, hkp⟩ := fin (some (.goto t)) W3 hk3
        exact ⟨_, _, hr, .inr ⟨rfl, ⟨.goto t, hIxp _ _ _ _ hi3, hl4, hk4⟩, hk1.trans hkp⟩⟩
      | panic ch => exact hp.elim
      | outgrown => exact hp.elim
    · rintro e W2 (⟨v, rfl, ⟨xs, hfull, hi, hl, hk⟩ | ⟨pre, c, hi, hl, hk⟩⟩ | ⟨c, xs, rfl, hfell', hi, hl, hk⟩)
      · exact ⟨none, _, by have := run_endLoop (P := P) hl (by rw [hrec]; simp); rw [hrec] at this; exact this, hdone xs _ hfull (hIp _ _ _ hi) ((World.putObj_heap_other (by omega)).trans hk)⟩
      · exact ⟨some c, _, by have := run_endLoop (P := P) hl (by rw [hrec]; simp); rw [hrec] at this; exact this, hstop c pre _ (hIxp _ _ _ _ hi) ((World.putObj_heap_other (by omega)).trans hk)⟩
      · exact hfell c xs _ hfell' hi hk
end Go.Proofs.YtbfedeedicnedaaGreat
end
