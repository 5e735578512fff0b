/-
  Texts of this claim: ShO, ShT, ShAK, ShAL, ShAF, ShAM, ShAN.
-/
import Derived.Test.YtbfedeedicnedaaGreatWb01
import Derived.Test.YtbfedeedicnedaaGreatWb02
import Derived.Test.YtbfedeedicnedaaGreatWb03
import Derived.Test.YtbfedeedicnedaaGreatWb04
import Derived.Test.YtbfedeedicnedaaGreatWb05
import Derived.Test.YtbfedeedicnedaaGreatWb06
import Derived.Test.YtbfedeedicnedaaGreatWb07
import Derived.Test.YtbfedeedicnedaaGreatWb08
import Derived.Test.YtbfedeedicnedaaGreatWb09
import Derived.Test.YtbfedeedicnedaaGreatWb10
import Derived.Test.YtbfedeedicnedaaGreatWb11
import Derived.Test.YtbfedeedicnedaaGreatWb12
import Derived.Test.YtbfedeedicnedaaGreatWb13
import Derived.Test.YtbfedeedicnedaaGreatWb14
import Derived.Test.YtbfedeedicnedaaGreatWb15
import Derived.Test.YtbfedeedicnedaaGreatWb16
import Derived.Test.YtbfedeedicnedaaGreatWb17
import Derived.Test.YtbfedeedicnedaaGreatWb18
import Derived.Test.YtbfedeedicnedaaGreatWb19
import Derived.Test.YtbfedeedicnedaaGreatWb20
import Derived.Test.YtbfedeedicnedaaGreatWb21
import Derived.Test.YtbfedeedicnedaaGreatWb22
import Derived.Test.YtbfedeedicnedaaGreatWb23
import Derived.Test.YtbfedeedicnedaaGreatWb24
import Derived.Test.YtbfedeedicnedaaGreatWb25
import Derived.Test.YtbfedeedicnedaaGreatWb26
import Derived.Test.YtbfedeedicnedaaGreatWb27
import Derived.Test.YtbfedeedicnedaaGreatWb28
import Derived.Test.YtbfedeedicnedaaGreatWb29
import Derived.Test.YtbfedeedicnedaaGreatWb30
import Derived.Test.YtbfedeedicnedaaGreatWb31
import Derived.Test.YtbfedeedicnedaaGreatWb32
import Derived.Test.YtbfedeedicnedaaGreatWb33
import Derived.Test.YtbfedeedicnedaaGreatWb34
import Derived.Test.YtbfedeedicnedaaGreatWb35
import Derived.Test.YtbfedeedicnedaaGreatWb36
import Derived.Test.YtbfedeedicnedaaGreatWb37
import Derived.Test.YtbfedeedicnedaaGreatWb38
import Derived.Test.YtbfedeedicnedaaGreatWb39
import Derived.Test.YtbfedeedicnedaaGreatWb40
import Derived.Test.YtbfedeedicnedaaGreatWb41
import Derived.Test.YtbfedeedicnedaaGreatWb42
import Derived.Deep.RegionHeld3
import Derived.Test.YtbfedeedicnedaaGreatProg
import Derived.WalkKit
import Derived.KernelRfl
import Derived.WalkLawsBesides
import Derived.WalkSpells
import Derived.Deep.QuietTactic
import Derived.BigQuiet
import Derived.Lib.Hide
import Derived.Deep.LoopGhost
import Derived.Below
import Derived.Deep.Draws
import Derived.Deep.AppendLies
import Derived.Maps.AppendAt
import Derived.OwnWalk
import Derived.Laws.BytesArg
import Derived.Laws.MakeOwn
import Derived.Laws.OwnMore
import Derived.Deep.OwnRows
import Derived.Tactics
import Derived.Lib.ConvBytes
import Derived.Laws.Slices
import Derived.RowKit3
import Derived.WideLaws
import Derived.Deep.DeepCutAuto
import Derived.Deep.CutBlock
import Derived.Laws.Rows
import Derived.Lib.AppendStr
import Derived.ArgAppend
import Derived.Laws.IdiomCopy
import Derived.OrdersHeld
import Derived.Laws.BitsLemmas
import Derived.RowKit
import Derived.Laws.StructEq
import Derived.Laws.EntriesVeiled
import Derived.StillTailTactics
import Derived.Sort.OwnSortedInts
import Derived.Shelf.Sort.Plain
import Derived.Shelf.Bits.Mul64
import Derived.Shelf.Slices.Turned
import Derived.Ground.Names2Prog
import Derived.Shelf.Slices.Clone
import Derived.Shelf.Slices.CompactI
import Derived.Shelf.Slices.SearchI
import Derived.Shelf.Slices.Delete
import Derived.Shelf.Slices.Cells
import Derived.Shelf.Slices.In.SortNone
import Derived.Shelf.Slices.Empties
import Derived.Laws.CopyOwn

section
set_option linter.unusedVariables false
set_option linter.unusedSimpArgs false
namespace Go.Proofs.YtbfedeedicnedaaGreat
open Go.RowKit
open Go.Proofs.YtbfedeedicnedaaGreatW.PrintWords
namespace Sh
def findT (h : Hp) (x : Int) : Nat → Int → Nat → Bool × Nat
  | 0, _, s => (false, s)
  | g + 1, r, s =>
    if r = -1 then (false, s)
    else if x = elt h r then (true, s + 1)
    else if x < elt h r then findT h x g (lft h r) (s + 1)
    else findT h x g (rgt h r) (s + 1)
theorem findT_step (h : Hp) (x : Int) (g : Nat) (r : Int) (s : Nat) : findT h x (g + 1) r s =
    if r = -1 then (false, s)
    else if x = elt h r then (true, s + 1)
    else if x < elt h r then findT h x g (lft h r) (s + 1)
    else findT h x g (rgt h r) (s + 1) := rfl
end Sh
set_option maxRecDepth 100000 in
set_option maxHeartbeats 4000000 in
theorem tfind_calls (H : Sh.Hp) (root x lo hi t : Int) (l : List Int) (A : Option Addr) (c : Nat) (w : World) (hC : Nodes w A H) (T : Sh.Tr H root lo hi l t) (ht : t ≤ 100000) :
    Calls Tryz.prog 153 #[.agg #[], .slice A H.length c, .int .i64 root, .int .i64 x] w fun e w' => e = .returned (.tuple #[.bool (Sh.findT H x (t.toNat + 1) root 0).1, .int .i64 ((Sh.findT H x (t.toNat + 1) root 0).2 : Nat)]) ∧ Below w.heap.size w w' := by
  have hB0 := Lib.hid (show Below w.heap.size w (w.alloc (.cells #[] 119)) from (Below.refl _ _).alloc (Nat.le_refl _) _)
  obtain ⟨R, hR⟩ : ∃ R, R = Sh.findT H x (t.toNat + 1) root 0 := ⟨_, rfl⟩
  rw [← hR]
  have ht0 := T.nonneg
  have hTh := Lib.hid T
  have hCh := Lib.hid hC
  replace hR := Lib.hid hR
  clear hC T
  go_enter Tryz.func153, Tryz.ntmps153
  go_wp2
  go_loopg [2, 10] t.toNat (fun g v2 v10 wr => ∃ (r : Int) (s G : Nat) (lo' hi' t' : Int) (l' : List Int), v2 = .int .i64 r ∧ v10 = .int .i64 s ∧ Hid (Sh.Tr H r lo' hi' l' t') ∧ s + t' ≤ 200000 ∧ 0 ≤ t' ∧ Hid ((g : Int) = t') ∧ Hid (Below w.heap.size w wr) ∧ Hid (t' < G) ∧ Hid (R = Sh.findT H x G r s))
  case atStart => exact ⟨root, 0, t.toNat + 1, lo, hi, t, l, rfl, rfl, hTh, by omega, ht0, Lib.hid (by omega), hB0, Lib.hid (by omega), hR⟩
  case round =>
    obtain ⟨r, s, G, lo', hi', t', l', rfl, rfl, hT, hs, ht', hg, hB, hG, hRr⟩ := hrel
    obtain ⟨G, rfl⟩ : ∃ G', G = G' + 1 := ⟨G - 1, by have := hG.out; omega⟩
    have hst := Sh.findT_step H x G r s
    rw [← hRr.out] at hst
    by_cases c1 : r = -1
    · rw [if_pos c1] at hst
      replace hst := Lib.hid hst
      subst c1
      go_wp2
      go_ret2
      obtain rfl := hst.out
      exact ⟨rfl, hB.out⟩
    · rw [if_neg c1] at hst
      have ht1 : 1 ≤ t' := by rcases hT.out.root with ⟨h, _⟩ | ⟨_, _, _, h⟩; exact absurd h c1; exact h
      obtain ⟨la, lb, ha, hb, e1, e2, q1, q2, T1, T2, q3, q4⟩ := Sh.open_at hT.out ht1
      obtain ⟨r0, r1⟩ : 0 ≤ r ∧ r < (H.length : Int) := by rcases hT.out.root with ⟨h, _⟩ | ⟨h0, h1, _, _⟩; exact absurd h c1; exact ⟨h0, h1⟩
      obtain ⟨x', a', b', la', lb', ha', hb', en, _⟩ := hT.out.parts c1
      have hCw := Kd.C_below hCh.out hB.out
      obtain ⟨ad, A0, c0, A1, c1', rfl, d0, d1, l0, g0, l1, g1⟩ := Nodes.at hCw r r0 r1
      have hn0 : (Sh.nd H r).1.length = 2 := by rw [en]; rfl
      have hn1 : (Sh.nd H r).2.length = 2 := by rw [en]; rfl
      have g0' := fun o => Kd.C_alloc g0 o
      have g1' := fun o => Kd.C_alloc g1 o
      obtain ⟨ad0, rfl, _⟩ := at_zero g0 (by omega)
      obtain ⟨ad1, rfl, _, _⟩ := at_one g1 (by omega)
      have e0 : ∀ o, (wr.alloc o).cell? ad0 = some (.int .i64 (Sh.elt H r)) := fun o => by
        obtain ⟨_, e, h⟩ := at_zero (g0' o) (by omega)
        cases e
        exact h
      have f0 : ∀ o, (wr.alloc o).cell? ad1 = some (.int .i64 (Sh.lft H r)) := fun o => by
        obtain ⟨_, e, h, _⟩ := at_one (g1' o) (by omega)
        cases e
        exact h
      have f1 : ∀ o, (wr.alloc o).cell? ⟨ad1.block, ad1.off + 1, none⟩ = some (.int .i64 (Sh.rgt H r)) := fun o => by
        obtain ⟨_, e, _, h⟩ := at_one (g1' o) (by omega)
        cases e
        exact h
      rw [hn0] at d0 l0
      rw [hn1] at d1 l1
      have T1h := Lib.hid T1
      have T2h := Lib.hid T2
      have na := T1.nonneg
      have nb := T2.nonneg
      clear hCw g0 g1 g0' g1' hn0 hn1 en T1 T2 e1
      generalize Sh.elt H r = y at *
      generalize Sh.lft H r = a at *
      generalize Sh.rgt H r = b at *
      obtain ⟨i, rfl⟩ := Int.eq_ofNat_of_zero_le r0
      simp only [Int.toNat_natCast] at d0 d1
      have hB2 := Lib.hid (hB.out.alloc hB.out.size (.cells #[.slice (some ad0) 2 c0, .slice (some ad1) 2 c1'] 95))
      have hmx : ha + 1 ≤ t' ∧ hb + 1 ≤ t' := by omega
      clear e2
      by_cases c3 : x = y
      · rw [if_pos c3] at hst
        replace hst := Lib.hid hst
        have c3b : (x == y) = true := beq_iff_eq.mpr c3
        clear c3
        go_wp2
        go_ret2
        obtain rfl := hst.out
        exact ⟨rfl, hB2.out⟩
      rw [if_neg c3] at hst
      have c3b : (x == y) = false := beq_eq_false_iff_ne.mpr c3
      by_cases c4 : x < y
      · rw [if_pos c4] at hst
        replace hst := Lib.hid hst
        clear c3
        go_wp2
        go_roundg ha.toNat
        case measure => have := hg.out; omega
        case rel => exact ⟨a, s + 1, G, _, _, ha, la, rfl, by go_num, T1h, by omega, na, Lib.hid (by omega), hB2, Lib.hid (by have := hG.out; omega), hst⟩
      · rw [if_neg c4] at hst
        replace hst := Lib.hid hst
        clear c3
        go_wp2
        go_roundg hb.toNat
        case measure => have := hg.out; omega
        case rel => exact ⟨b, s + 1, G, _, _, hb, lb, rfl, by go_num, T2h, by omega, nb, Lib.hid (by omega), hB2, Lib.hid (by have := hG.out; omega), hst⟩
end Go.Proofs.YtbfedeedicnedaaGreat
end

section
set_option linter.unusedVariables false
set_option linter.unusedSimpArgs false
namespace Go.Proofs.YtbfedeedicnedaaGreat
open Go.RowKit
open Go.Proofs.YtbfedeedicnedaaGreatW.PrintWords
set_option maxRecDepth 100000 in
set_option maxHeartbeats 1000000 in
theorem search_bad (H : Sh.Hp) (f root count x : Int) (A : Option Addr) (c : Nat) (w : World) (hC : Nodes w A H) (hL : ListsF H f) (hs : (Sh.sought H f root count x).2 ≠ 0) :
    Calls Tryz.prog 61 #[.slice A H.length c, shV f root count, .int .i64 x] w fun e w' => e = .returned (.tuple #[.bool false, .int .i64 0, .int .i64 (Sh.sought H f root count x).2]) ∧ Below w.heap.size w w' := by
  have hcl := Lib.hid (sought_in H f root count x A c w (.cells #[.int .i64 f, .int .i64 root, .int .i64 count] 25) hC hL)
  generalize Sh.sought H f root count x = R at *
  obtain ⟨R1, R2⟩ := R
  have hsb : (R2 != 0) = true := bne_iff_ne.mpr hs
  clear hC hL hs
  go_enter Tryz.func61, Tryz.ntmps61
  go_wp2_with fail
  refine (hcl.out).mono ?_
  rintro e w1 ⟨⟨v, l, rfl, ho, h1, h2⟩, hb, _⟩
  replace ho := Lib.hid ho
  replace hb := Lib.hid hb
  go_wp2
  go_ret3
  exact ⟨rfl, hb.out⟩
end Go.Proofs.YtbfedeedicnedaaGreat
end

section
set_option linter.unusedVariables false
set_option linter.unusedSimpArgs false
namespace Go.Proofs.YtbfedeedicnedaaGreat
open Go.RowKit
open Go.Proofs.YtbfedeedicnedaaGreatW.PrintWords
set_option maxRecDepth 100000 in
set_option maxHeartbeats 1000000 in
theorem Join_bad3 {H : Sh.Hp} {fa ra na fb rb nb x : Int} {A : Option Addr} {c : Nat} {w : World} {l m : List Int} (hC : Nodes w A H) (hLa : ListsF H fa) (hLb : ListsF H fb) (ha : Sh.listed H fa ra na = (l, 0)) (hb : Sh.sought H fb rb nb x = (m, 0)) (he : fa ≠ 3 ∨ fb ≠ 3) :
    Calls Tryz.prog 47 #[.slice A H.length c, shV fa ra na, .int .i64 x, shV fb rb nb] w fun e w' => Out3 w.heap.size w' e [] 0 0 0 7 ∧ Below w.heap.size w w' := by
  obtain ⟨W0, hW0⟩ : ∃ W0, W0 = ((w.alloc (.cells #[.int .i64 fa, .int .i64 ra, .int .i64 na] 25)).alloc (.cells #[.int .i64 fb, .int .i64 rb, .int .i64 nb] 25)).alloc (.cells #[.int .i64 0, .int .i64 0, .int .i64 0] 25) := ⟨_, rfl⟩
  have hsz := Lib.hid (show W0.heap.size = w.heap.size + 3 by rw [hW0, World.size_alloc, World.size_alloc, World.size_alloc])
  have b1 := Lib.hid (show W0.heap[w.heap.size]? = some (.cells #[.int .i64 fa, .int .i64 ra, .int .i64 na] 25 (0, 0)) by
    rw [hW0]
    exact blk_alloc (blk_alloc (heap_alloc_new w _) _) _)
  have b2 := Lib.hid (show W0.heap[w.heap.size + 1]? = some (.cells #[.int .i64 fb, .int .i64 rb, .int .i64 nb] 25 (0, 0)) by
    have := blk_alloc (heap_alloc_new (w.alloc (.cells #[.int .i64 fa, .int .i64 ra, .int .i64 na] 25)) (.cells #[.int .i64 fb, .int .i64 rb, .int .i64 nb] 25)) (.cells #[.int .i64 0, .int .i64 0, .int .i64 0] 25)
    rw [World.size_alloc] at this
    rw [hW0]
    exact this)
  have b3 := Lib.hid (show W0.heap[w.heap.size + 2]? = some (.cells #[.int .i64 0, .int .i64 0, .int .i64 0] 25 (0, 0)) by
    have := heap_alloc_new ((w.alloc (.cells #[.int .i64 fa, .int .i64 ra, .int .i64 na] 25)).alloc (.cells #[.int .i64 fb, .int .i64 rb, .int .i64 nb] 25)) (.cells #[.int .i64 0, .int .i64 0, .int .i64 0] 25)
    rw [World.size_alloc, World.size_alloc] at this
    rw [hW0]
    exact this)
  have hB0 := Lib.hid (show Below w.heap.size w W0 by
    rw [hW0]
    exact (((Below.refl _ _).alloc (Nat.le_refl _) _).alloc (by rw [World.size_alloc]; omega) _).alloc (by rw [World.size_alloc, World.size_alloc]; omega) _)
  have hBw := Lib.hid (fun W (hW : Below W0.heap.size W0 W) => (hB0.out.trans (hW.mono (by have := hsz.out; omega)) : Below w.heap.size w W))
  have hla := Lib.hid (fun W (hW : Below W0.heap.size W0 W) => by have := listed_calls H fa ra na A c W (Kd.C_below hC (hBw.out W hW)) hLa; rw [ha] at this; exact this)
  have hlb := Lib.hid (fun W (hW : Below W0.heap.size W0 W) => by have := sought_calls H fb rb nb x A c W (Kd.C_below hC (hBw.out W hW)) hLb; rw [hb] at this; exact this)
  clear hC hLa hLb ha hb
  by_cases h3 : fa = 3
  · have h4 : fb ≠ 3 := by rcases he with h | h; exact absurd h3 h; exact h
    have h3b : (fa != 3) = false := bne_eq_false_iff_eq.mpr h3
    have h4b : (fb != 3) = true := bne_iff_ne.mpr h4
    clear h3 h4 he
    go_enter Tryz.func47, Tryz.ntmps47
    go_wp2_with fail
    rw [← hW0]
    clear hW0
    refine (hla.out _ (Below.refl _ _)).mono ?_
    rintro e w1 ⟨⟨v1, l1, rfl, o1, hx0, hx1⟩, hb1⟩
    have hB1 := Lib.hid hb1
    have r6 : w1.cell? ⟨w.heap.size + 1, 0, none⟩ = some (.int .i64 fb) := by rw [blk_cell (blk_below b2.out hb1)]; rfl
    have r7 : w1.cell? ⟨w.heap.size + 1, 1, none⟩ = some (.int .i64 rb) := by rw [blk_cell (blk_below b2.out hb1)]; rfl
    have r8 : w1.cell? ⟨w.heap.size + 1, 2, none⟩ = some (.int .i64 nb) := by rw [blk_cell (blk_below b2.out hb1)]; rfl
    replace hx0 := Lib.hid hx0
    replace hx1 := Lib.hid hx1
    replace o1 := Lib.hid o1
    clear hb1
    go_wp2_with fail
    refine (hlb.out _ hB1.out).mono ?_
    rintro e w2 ⟨⟨v2, m1, rfl, o2, hy0, hy1⟩, hb2⟩
    have hB2 := hB1.out.trans (hb2.mono hB1.out.size)
    have o1' := Lib.hid (Kd.R_below o1.out hb2)
    have hr9 := blk_below b3.out hB2
    have hf9 := blk_frozen hr9
    have c90 : w2.cell? ⟨w.heap.size + 2, 0, none⟩ = some (.int .i64 0) := by rw [blk_cell hr9]; rfl
    have c91 : w2.cell? ⟨w.heap.size + 2, 1, none⟩ = some (.int .i64 0) := by rw [blk_cell hr9]; rfl
    have c92 : w2.cell? ⟨w.heap.size + 2, 2, none⟩ = some (.int .i64 0) := by rw [blk_cell hr9]; rfl
    have hBf := Lib.hid (hBw.out _ hB2)
    replace hr9 := Lib.hid hr9
    have s1 : w2.cell? ⟨w.heap.size, 0, none⟩ = some (.int .i64 fa) := by rw [blk_cell (blk_below b1.out hB2)]; rfl
    have s2 : w2.cell? ⟨w.heap.size + 1, 0, none⟩ = some (.int .i64 fb) := by rw [blk_cell (blk_below b2.out hB2)]; rfl
    clear hb2 o2 hy0 hy1 r6 r7 r8 hB2 o1 o1'
    go_wp2
    refine bodyPost_ret (results_tct rfl _ _ (w.heap.size + 2) #[.int .i64 0, .int .i64 0, .int .i64 0] rfl (load_set3 hr9.out)) rfl ?_
    exact ⟨⟨_, rfl, Kd.R_nil _ _ _ _ _⟩, below_set2 2 hBf.out _ _ _⟩
  · have h3b : (fa != 3) = true := bne_iff_ne.mpr h3
    clear h3 he
    go_enter Tryz.func47, Tryz.ntmps47
    go_wp2_with fail
    rw [← hW0]
    clear hW0
    refine (hla.out _ (Below.refl _ _)).mono ?_
    rintro e w1 ⟨⟨v1, l1, rfl, o1, hx0, hx1⟩, hb1⟩
    have hB1 := Lib.hid hb1
    have r6 : w1.cell? ⟨w.heap.size + 1, 0, none⟩ = some (.int .i64 fb) := by rw [blk_cell (blk_below b2.out hb1)]; rfl
    have r7 : w1.cell? ⟨w.heap.size + 1, 1, none⟩ = some (.int .i64 rb) := by rw [blk_cell (blk_below b2.out hb1)]; rfl
    have r8 : w1.cell? ⟨w.heap.size + 1, 2, none⟩ = some (.int .i64 nb) := by rw [blk_cell (blk_below b2.out hb1)]; rfl
    replace hx0 := Lib.hid hx0
    replace hx1 := Lib.hid hx1
    replace o1 := Lib.hid o1
    clear hb1
    go_wp2_with fail
    refine (hlb.out _ hB1.out).mono ?_
    rintro e w2 ⟨⟨v2, m1, rfl, o2, hy0, hy1⟩, hb2⟩
    have hB2 := hB1.out.trans (hb2.mono hB1.out.size)
    have o1' := Lib.hid (Kd.R_below o1.out hb2)
    have hr9 := blk_below b3.out hB2
    have hf9 := blk_frozen hr9
    have c90 : w2.cell? ⟨w.heap.size + 2, 0, none⟩ = some (.int .i64 0) := by rw [blk_cell hr9]; rfl
    have c91 : w2.cell? ⟨w.heap.size + 2, 1, none⟩ = some (.int .i64 0) := by rw [blk_cell hr9]; rfl
    have c92 : w2.cell? ⟨w.heap.size + 2, 2, none⟩ = some (.int .i64 0) := by rw [blk_cell hr9]; rfl
    have hBf := Lib.hid (hBw.out _ hB2)
    replace hr9 := Lib.hid hr9
    have s1 : w2.cell? ⟨w.heap.size, 0, none⟩ = some (.int .i64 fa) := by rw [blk_cell (blk_below b1.out hB2)]; rfl
    have s2 : w2.cell? ⟨w.heap.size + 1, 0, none⟩ = some (.int .i64 fb) := by rw [blk_cell (blk_below b2.out hB2)]; rfl
    clear hb2 o2 hy0 hy1 r6 r7 r8 hB2 o1 o1'
    go_wp2
    refine bodyPost_ret (results_tct rfl _ _ (w.heap.size + 2) #[.int .i64 0, .int .i64 0, .int .i64 0] rfl (load_set3 hr9.out)) rfl ?_
    exact ⟨⟨_, rfl, Kd.R_nil _ _ _ _ _⟩, below_set2 2 hBf.out _ _ _⟩
end Go.Proofs.YtbfedeedicnedaaGreat
end

section
set_option linter.unusedVariables false
set_option linter.unusedSimpArgs false
namespace Go.Proofs.YtbfedeedicnedaaGreat
open Go.RowKit
open Go.Proofs.YtbfedeedicnedaaGreatW.PrintWords
namespace Sh
end Sh
set_option maxRecDepth 100000 in
set_option maxHeartbeats 1000000 in
theorem Join_bad4 {H : Sh.Hp} {ra na rb nb x ta tb : Int} {A : Option Addr} {c : Nat} {w : World} {l m : List Int} (hC : Nodes w A H) (hLa : ListsF H 3) (ha : Sh.listed H 3 ra na = (l, 0)) (hb : Sh.sought H 3 rb nb x = (m, 0)) (Ta : Sh.Tr H ra (-1) 1024 l ta) (Tb : Sh.Tr H rb (-1) 1024 m tb) (hll : l.length ≤ 5000) (hmm : m.length ≤ 5000) (he : ¬ Sh.between l m x) :
    Calls Tryz.prog 47 #[.slice A H.length c, shV 3 ra na, .int .i64 x, shV 3 rb nb] w fun e w' => Out3 w.heap.size w' e [] 0 0 0 7 ∧ Below w.heap.size w w' := by
  obtain ⟨W0, hW0⟩ : ∃ W0, W0 = ((w.alloc (.cells #[.int .i64 3, .int .i64 ra, .int .i64 na] 25)).alloc (.cells #[.int .i64 3, .int .i64 rb, .int .i64 nb] 25)).alloc (.cells #[.int .i64 0, .int .i64 0, .int .i64 0] 25) := ⟨_, rfl⟩
  have hsz := Lib.hid (show W0.heap.size = w.heap.size + 3 by rw [hW0, World.size_alloc, World.size_alloc, World.size_alloc])
  have b1 := Lib.hid (show W0.heap[w.heap.size]? = some (.cells #[.int .i64 3, .int .i64 ra, .int .i64 na] 25 (0, 0)) by
    rw [hW0]
    exact blk_alloc (blk_alloc (heap_alloc_new w _) _) _)
  have b2 := Lib.hid (show W0.heap[w.heap.size + 1]? = some (.cells #[.int .i64 3, .int .i64 rb, .int .i64 nb] 25 (0, 0)) by
    have := blk_alloc (heap_alloc_new (w.alloc (.cells #[.int .i64 3, .int .i64 ra, .int .i64 na] 25)) (.cells #[.int .i64 3, .int .i64 rb, .int .i64 nb] 25)) (.cells #[.int .i64 0, .int .i64 0, .int .i64 0] 25)
    rw [World.size_alloc] at this
    rw [hW0]
    exact this)
  have b3 := Lib.hid (show W0.heap[w.heap.size + 2]? = some (.cells #[.int .i64 0, .int .i64 0, .int .i64 0] 25 (0, 0)) by
    have := heap_alloc_new ((w.alloc (.cells #[.int .i64 3, .int .i64 ra, .int .i64 na] 25)).alloc (.cells #[.int .i64 3, .int .i64 rb, .int .i64 nb] 25)) (.cells #[.int .i64 0, .int .i64 0, .int .i64 0] 25)
    rw [World.size_alloc, World.size_alloc] at this
    rw [hW0]
    exact this)
  have hB0 := Lib.hid (show Below w.heap.size w W0 by
    rw [hW0]
    exact (((Below.refl _ _).alloc (Nat.le_refl _) _).alloc (by rw [World.size_alloc]; omega) _).alloc (by rw [World.size_alloc, World.size_alloc]; omega) _)
  have hBw := Lib.hid (fun W (hW : Below W0.heap.size W0 W) => (hB0.out.trans (hW.mono (by have := hsz.out; omega)) : Below w.heap.size w W))
  have hla := Lib.hid (fun W (hW : Below W0.heap.size W0 W) => by have := listed_calls H 3 ra na A c W (Kd.C_below hC (hBw.out W hW)) hLa; rw [ha] at this; exact this)
  have hlb := Lib.hid (fun W (hW : Below W0.heap.size W0 W) => by have := sought_calls H 3 rb nb x A c W (Kd.C_below hC (hBw.out W hW)) hLa; rw [hb] at this; exact this)
  have hpl := Ta.rise
  have hpm := Tb.rise
  have he' := Lib.hid he
  have hpl' := Lib.hid hpl
  have hpm' := Lib.hid hpm
  clear hC hLa ha hb Ta Tb hpl hpm he
  go_enter Tryz.func47, Tryz.ntmps47
  go_wp2_with fail
  rw [← hW0]
  clear hW0
  refine (hla.out _ (Below.refl _ _)).mono ?_
  rintro e w1 ⟨⟨v1, l1, rfl, o1, hx0, hx1⟩, hb1⟩
  have hB1 := Lib.hid hb1
  have r6 : w1.cell? ⟨w.heap.size + 1, 0, none⟩ = some (.int .i64 3) := by rw [blk_cell (blk_below b2.out hb1)]; rfl
  have r7 : w1.cell? ⟨w.heap.size + 1, 1, none⟩ = some (.int .i64 rb) := by rw [blk_cell (blk_below b2.out hb1)]; rfl
  have r8 : w1.cell? ⟨w.heap.size + 1, 2, none⟩ = some (.int .i64 nb) := by rw [blk_cell (blk_below b2.out hb1)]; rfl
  replace hx0 := Lib.hid hx0
  replace hx1 := Lib.hid hx1
  replace o1 := Lib.hid o1
  clear hb1
  go_wp2_with fail
  refine (hlb.out _ hB1.out).mono ?_
  rintro e w2 ⟨⟨v2, m1, rfl, o2, hy0, hy1⟩, hb2⟩
  have hB2 := hB1.out.trans (hb2.mono hB1.out.size)
  have o1' := Lib.hid (Kd.R_below o1.out hb2)
  have s1 : w2.cell? ⟨w.heap.size, 0, none⟩ = some (.int .i64 3) := by rw [blk_cell (blk_below b1.out hB2)]; rfl
  have s2 : w2.cell? ⟨w.heap.size + 1, 0, none⟩ = some (.int .i64 3) := by rw [blk_cell (blk_below b2.out hB2)]; rfl
  have hD3 : ¬ Digital 3 := by unfold Digital; omega
  obtain rfl : l1 = l := hx1.out hD3
  obtain rfl : m1 = m := hy1 hD3
  obtain ⟨A1, c1, rfl, hc1, hC1⟩ := Kd.R_reads o1'.out
  obtain ⟨A2, c2, rfl, hc2, hC2⟩ := Kd.R_reads o2
  obtain ⟨n1, hn1⟩ : ∃ n1, n1 = l1.length := ⟨_, rfl⟩
  obtain ⟨n2, hn2⟩ : ∃ n2, n2 = m1.length := ⟨_, rfl⟩
  rw [← hn1] at hll hc1 hC1 ⊢
  rw [← hn2] at hmm hc2 hC2 ⊢
  have hC1' := Lib.hid hC1
  have hC2' := Lib.hid hC2
  by_cases z1 : 0 < n1
  · obtain ⟨q, hq⟩ : ∃ q, q + 1 = n1 := ⟨n1 - 1, by omega⟩
    obtain ⟨ad1, e1, f1⟩ := at_int hC1 q (by omega) (by omega)
    rw [Int.toNat_natCast] at f1
    subst e1
    have hbk : IntKind.i64.wrap ((n1 : Int) - 1) = (q : Int) := by rw [IntWalk.i64_in _ (by omega)]; omega
    have hqn : (q : Int) < (n1 : Int) := by omega
    have hlast := Sh.rise_last hpl'.out q (by omega)
    obtain ⟨z, hz⟩ : ∃ z, z = Sh.gi l1 q := ⟨_, rfl⟩
    rw [← hz] at f1 hlast
    have hzm : z ∈ l1 := by rw [hz]; unfold Sh.gi; rw [List.getD_eq_getElem?_getD, List.getElem?_eq_getElem (by omega)]; exact List.getElem_mem (by omega)
    replace hz := Lib.hid hz
    replace hq := Lib.hid hq
    by_cases zx : x ≤ z
    · clear hzm hlast
      have hr9 := blk_below b3.out hB2
      have hf9 := blk_frozen hr9
      have c90 : w2.cell? ⟨w.heap.size + 2, 0, none⟩ = some (.int .i64 0) := by rw [blk_cell hr9]; rfl
      have c91 : w2.cell? ⟨w.heap.size + 2, 1, none⟩ = some (.int .i64 0) := by rw [blk_cell hr9]; rfl
      have c92 : w2.cell? ⟨w.heap.size + 2, 2, none⟩ = some (.int .i64 0) := by rw [blk_cell hr9]; rfl
      have hBf := Lib.hid (hBw.out _ hB2)
      replace hr9 := Lib.hid hr9
      replace hn1 := Lib.hid hn1
      replace hn2 := Lib.hid hn2
      clear hb2 o2 hy0 hy1 r6 r7 r8 hB2 o1 o1' hx0 hx1 hC1 hC2 hD3
      go_wp2
      refine bodyPost_ret (results_tct rfl _ _ (w.heap.size + 2) #[.int .i64 0, .int .i64 0, .int .i64 0] rfl (load_set3 hr9.out)) rfl ?_
      exact ⟨⟨_, rfl, Kd.R_nil _ _ _ _ _⟩, below_set2 2 hBf.out _ _ _⟩
    · have hlast' := Lib.hid (fun y hy => Int.lt_of_le_of_lt (hlast y hy) (show z < x by omega))
      clear hlast hzm
      by_cases z2 : 0 < n2
      · obtain ⟨ad2, e2, f2⟩ := at_int hC2 0 (by omega) (by omega)
        subst e2
        have f2' : w2.cell? ad2 = some (.int .i64 (Sh.gi m1 0)) := f2
        have hfst := Sh.rise_first hpm'.out (by omega)
        have hym : Sh.gi m1 0 ∈ m1 := by unfold Sh.gi; rw [List.getD_eq_getElem?_getD, List.getElem?_eq_getElem (by omega)]; exact List.getElem_mem (by omega)
        obtain ⟨y, hy⟩ : ∃ y, y = Sh.gi m1 0 := ⟨_, rfl⟩
        rw [← hy] at f2' hfst hym
        replace hy := Lib.hid hy
        clear f2
        by_cases yx : y ≤ x
        · clear hfst hym
          have hr9 := blk_below b3.out hB2
          have hf9 := blk_frozen hr9
          have c90 : w2.cell? ⟨w.heap.size + 2, 0, none⟩ = some (.int .i64 0) := by rw [blk_cell hr9]; rfl
          have c91 : w2.cell? ⟨w.heap.size + 2, 1, none⟩ = some (.int .i64 0) := by rw [blk_cell hr9]; rfl
          have c92 : w2.cell? ⟨w.heap.size + 2, 2, none⟩ = some (.int .i64 0) := by rw [blk_cell hr9]; rfl
          have hBf := Lib.hid (hBw.out _ hB2)
          replace hr9 := Lib.hid hr9
          replace hn1 := Lib.hid hn1
          replace hn2 := Lib.hid hn2
          clear hb2 o2 hy0 hy1 r6 r7 r8 hB2 o1 o1' hx0 hx1 hC1 hC2 hD3
          go_wp2
          refine bodyPost_ret (results_tct rfl _ _ (w.heap.size + 2) #[.int .i64 0, .int .i64 0, .int .i64 0] rfl (load_set3 hr9.out)) rfl ?_
          exact ⟨⟨_, rfl, Kd.R_nil _ _ _ _ _⟩, below_set2 2 hBf.out _ _ _⟩
        · exact absurd (⟨hlast'.out, fun y' hy' => Int.lt_of_lt_of_le (show x < y by omega) (hfst y' hy')⟩ : Sh.between l1 m1 x) he'.out
      · exact absurd (⟨hlast'.out, fun y' hy' => (by have h9 : m1 = [] := List.length_eq_zero_iff.1 (by omega); rw [h9] at hy'; cases hy')⟩ : Sh.between l1 m1 x) he'.out
  · by_cases z2 : 0 < n2
    · obtain ⟨ad2, e2, f2⟩ := at_int hC2 0 (by omega) (by omega)
      subst e2
      have f2' : w2.cell? ad2 = some (.int .i64 (Sh.gi m1 0)) := f2
      have hfst := Sh.rise_first hpm'.out (by omega)
      have hym : Sh.gi m1 0 ∈ m1 := by unfold Sh.gi; rw [List.getD_eq_getElem?_getD, List.getElem?_eq_getElem (by omega)]; exact List.getElem_mem (by omega)
      obtain ⟨y, hy⟩ : ∃ y, y = Sh.gi m1 0 := ⟨_, rfl⟩
      rw [← hy] at f2' hfst hym
      replace hy := Lib.hid hy
      clear f2
      by_cases yx : y ≤ x
      · clear hfst hym
        have hr9 := blk_below b3.out hB2
        have hf9 := blk_frozen hr9
        have c90 : w2.cell? ⟨w.heap.size + 2, 0, none⟩ = some (.int .i64 0) := by rw [blk_cell hr9]; rfl
        have c91 : w2.cell? ⟨w.heap.size + 2, 1, none⟩ = some (.int .i64 0) := by rw [blk_cell hr9]; rfl
        have c92 : w2.cell? ⟨w.heap.size + 2, 2, none⟩ = some (.int .i64 0) := by rw [blk_cell hr9]; rfl
        have hBf := Lib.hid (hBw.out _ hB2)
        replace hr9 := Lib.hid hr9
        replace hn1 := Lib.hid hn1
        replace hn2 := Lib.hid hn2
        clear hb2 o2 hy0 hy1 r6 r7 r8 hB2 o1 o1' hx0 hx1 hC1 hC2 hD3
        go_wp2
        refine bodyPost_ret (results_tct rfl _ _ (w.heap.size + 2) #[.int .i64 0, .int .i64 0, .int .i64 0] rfl (load_set3 hr9.out)) rfl ?_
        exact ⟨⟨_, rfl, Kd.R_nil _ _ _ _ _⟩, below_set2 2 hBf.out _ _ _⟩
      · exact absurd (⟨fun y' hy' => (by have h9 : l1 = [] := List.length_eq_zero_iff.1 (by omega); rw [h9] at hy'; cases hy'), fun y' hy' => Int.lt_of_lt_of_le (show x < y by omega) (hfst y' hy')⟩ : Sh.between l1 m1 x) he'.out
    · exact absurd (⟨fun y' hy' => (by have h9 : l1 = [] := List.length_eq_zero_iff.1 (by omega); rw [h9] at hy'; cases hy'), fun y' hy' => (by have h9 : m1 = [] := List.length_eq_zero_iff.1 (by omega); rw [h9] at hy'; cases hy')⟩ : Sh.between l1 m1 x) he'.out
end Go.Proofs.YtbfedeedicnedaaGreat
end

section
set_option linter.unusedVariables false
set_option linter.unusedSimpArgs false
namespace Go.Proofs.YtbfedeedicnedaaGreat
open Go.RowKit
open Go.Proofs.YtbfedeedicnedaaGreatW.PrintWords
set_option maxRecDepth 100000 in
set_option maxHeartbeats 1000000 in
theorem Turn_err {H : Sh.Hp} {f root count g : Int} {A : Option Addr} {c : Nat} {w : World} {l : List Int} (hC : Nodes w A H) (hL : ListsF H f) (h0 : Sh.listed H f root count = (l, 0)) (hg : ¬ (1 ≤ g ∧ g ≤ 5)) :
    Calls Tryz.prog 34 #[.slice A H.length c, shV f root count, .int .i64 g] w fun e w' => Out3 w.heap.size w' e [] 0 0 0 2 ∧ Below w.heap.size w w' := by
  have hkn := Lib.hid (fun W => known_calls g W)
  have hkf : (decide (1 ≤ g) && decide (g ≤ 5)) = false := by rw [Bool.and_eq_false_iff, decide_eq_false_iff_not, decide_eq_false_iff_not]; omega
  rw [hkf] at hkn
  have hB2 := two_alloc w (.cells #[.int .i64 f, .int .i64 root, .int .i64 count] 25) zero25
  have hcl := Lib.hid (listed_calls H f root count A c _ (Kd.C_below hC hB2) hL)
  rw [h0] at hcl
  have hb := heap_alloc_new (w.alloc (.cells #[.int .i64 f, .int .i64 root, .int .i64 count] 25)) zero25
  rw [World.size_alloc] at hb
  replace hb := Lib.hid hb
  replace hB2 := Lib.hid hB2
  have hs2 := Lib.hid (show ((w.alloc (.cells #[.int .i64 f, .int .i64 root, .int .i64 count] 25)).alloc zero25).heap.size = w.heap.size + 2 by rw [World.size_alloc, World.size_alloc])
  clear hC hL h0 hkf hg
  go_enter Tryz.func34, Tryz.ntmps34
  go_wp2_with fail
  refine (hcl.out).mono ?_
  rintro e w1 ⟨⟨v, l1, rfl, ho, _, _⟩, hb1⟩
  have hr1 := blk_below hb.out hb1
  have hf1 := blk_frozen hr1
  have c0 : w1.cell? ⟨w.heap.size + 1, 0, none⟩ = some (.int .i64 0) := by rw [blk_cell hr1]; rfl
  have c1 : w1.cell? ⟨w.heap.size + 1, 1, none⟩ = some (.int .i64 0) := by rw [blk_cell hr1]; rfl
  have c2 : w1.cell? ⟨w.heap.size + 1, 2, none⟩ = some (.int .i64 0) := by rw [blk_cell hr1]; rfl
  have hB1 := Lib.hid (hB2.out.trans (hb1.mono (by have := hs2.out; omega)))
  replace hr1 := Lib.hid hr1
  clear ho hb1
  go_wp2_with fail
  refine (hkn.out _).mono ?_
  rintro e w2 ⟨rfl, rfl⟩
  go_wp2
  refine bodyPost_ret (results_tct rfl _ _ (w.heap.size + 1) #[.int .i64 0, .int .i64 0, .int .i64 0] rfl (load_set3 hr1.out)) rfl ?_
  exact ⟨⟨_, rfl, Kd.R_nil _ _ _ _ _⟩, (((hB1.out.setCell (p := ⟨w.heap.size + 1, 0, none⟩) (by show w.heap.size ≤ w.heap.size + 1; omega) _).setCell (p := ⟨w.heap.size + 1, 1, none⟩) (by show w.heap.size ≤ w.heap.size + 1; omega) _).setCell (p := ⟨w.heap.size + 1, 2, none⟩) (by show w.heap.size ≤ w.heap.size + 1; omega) _)⟩
end Go.Proofs.YtbfedeedicnedaaGreat
end

section
set_option linter.unusedVariables false
set_option linter.unusedSimpArgs false
namespace Go.Proofs.YtbfedeedicnedaaGreat
open Go.RowKit
open Go.Proofs.YtbfedeedicnedaaGreatW.PrintWords
theorem load_two {w : World} {q k : Nat} {a b c x y z a' b' c' x' y' z' : Value} (hqk : q ≠ k) (h : w.heap[q]? = some (.cells #[a, b, c] 25 (0, 0))) (h' : w.heap[k]? = some (.cells #[a', b', c'] 25 (0, 0))) :
    let W := (((((w.setCell ⟨q, 0, none⟩ x).setCell ⟨q, 1, none⟩ y).setCell ⟨q, 2, none⟩ z).setCell ⟨k, 0, none⟩ x').setCell ⟨k, 1, none⟩ y').setCell ⟨k, 2, none⟩ z'
    (loadVar 25 ⟨q, 0, none⟩).run Tryz.prog W = .ok (.agg #[x, y, z]) W ∧ (loadVar 25 ⟨k, 0, none⟩).run Tryz.prog W = .ok (.agg #[x', y', z']) W := by
  intro W
  have hk : k ≠ q := fun e => hqk e.symm
  have h1 := blk_set (blk_set (blk_set h 0 x) 1 y) 2 z
  have h2 := blk_far (p := ⟨q, 2, none⟩) (blk_far (p := ⟨q, 1, none⟩) (blk_far (p := ⟨q, 0, none⟩) h' hk x) hk y) hk z
  exact ⟨load_shape (blk_far (p := ⟨k, 2, none⟩) (blk_far (p := ⟨k, 1, none⟩) (blk_far (p := ⟨k, 0, none⟩) h1 hqk x') hqk y') hqk z') rfl, load_shape (blk_set (blk_set (blk_set h2 0 x') 1 y') 2 z') rfl⟩
set_option maxRecDepth 100000 in
set_option maxHeartbeats 300000 in
theorem Split_bad2 {H : Sh.Hp} {f root n x : Int} {A : Option Addr} {c : Nat} {w : World} {l : List Int} (hC : Nodes w A H) (hLa : ListsF H f) (ha : Sh.sought H f root n x = (l, 0)) (he : f ≠ 3) :
    Calls Tryz.prog 44 #[.slice A H.length c, shV f root n, .int .i64 x] w fun e w' => Out5 w.heap.size w' e [] 0 0 0 0 0 false 7 ∧ Below w.heap.size w w' := by
  obtain ⟨W0, hW0⟩ : ∃ W0, W0 = ((w.alloc (.cells #[.int .i64 f, .int .i64 root, .int .i64 n] 25)).alloc zero25).alloc zero25 := ⟨_, rfl⟩
  have hsz := Lib.hid (show W0.heap.size = w.heap.size + 3 by rw [hW0, World.size_alloc, World.size_alloc, World.size_alloc])
  have b1 := Lib.hid (show W0.heap[w.heap.size]? = some (.cells #[.int .i64 f, .int .i64 root, .int .i64 n] 25 (0, 0)) by
    rw [hW0]
    exact blk_alloc (blk_alloc (heap_alloc_new w _) _) _)
  have b2 := Lib.hid (show W0.heap[w.heap.size + 1]? = some (.cells #[.int .i64 0, .int .i64 0, .int .i64 0] 25 (0, 0)) by
    have := blk_alloc (heap_alloc_new (w.alloc (.cells #[.int .i64 f, .int .i64 root, .int .i64 n] 25)) zero25) zero25
    rw [World.size_alloc] at this
    rw [hW0]
    exact this)
  have b3 := Lib.hid (show W0.heap[w.heap.size + 2]? = some (.cells #[.int .i64 0, .int .i64 0, .int .i64 0] 25 (0, 0)) by
    have := heap_alloc_new ((w.alloc (.cells #[.int .i64 f, .int .i64 root, .int .i64 n] 25)).alloc zero25) zero25
    rw [World.size_alloc, World.size_alloc] at this
    rw [hW0]
    exact this)
  have hB0 := Lib.hid (show Below w.heap.size w W0 by
    rw [hW0]
    exact (((Below.refl _ _).alloc (Nat.le_refl _) _).alloc (by rw [World.size_alloc]; omega) _).alloc (by rw [World.size_alloc, World.size_alloc]; omega) _)
  have hBw := Lib.hid (fun W (hW : Below W0.heap.size W0 W) => (hB0.out.trans (hW.mono (by have := hsz.out; omega)) : Below w.heap.size w W))
  have hla := Lib.hid (fun W (hW : Below W0.heap.size W0 W) => by have := sought_calls H f root n x A c W (Kd.C_below hC (hBw.out W hW)) hLa; rw [ha] at this; exact this)
  have heb : (f != 3) = true := bne_iff_ne.mpr he
  clear hC hLa ha he
  go_enter Tryz.func44, Tryz.ntmps44
  go_wp2_with fail
  rw [← hW0]
  clear hW0
  refine (hla.out _ (Below.refl _ _)).mono ?_
  rintro e w1 ⟨⟨v1, l1, rfl, o1, hx0, hx1⟩, hb1⟩
  have hBf := Lib.hid (hBw.out _ hb1)
  have hr7 := blk_below b2.out hb1
  have hr8 := blk_below b3.out hb1
  have hr0 := blk_below b1.out hb1
  have hf7 := blk_frozen hr7
  have hf8 := blk_frozen hr8
  have c00 : w1.cell? ⟨w.heap.size, 0, none⟩ = some (.int .i64 f) := by rw [blk_cell hr0]; rfl
  have c01 : w1.cell? ⟨w.heap.size, 1, none⟩ = some (.int .i64 root) := by rw [blk_cell hr0]; rfl
  have c70 : w1.cell? ⟨w.heap.size + 1, 0, none⟩ = some (.int .i64 0) := by rw [blk_cell hr7]; rfl
  have c71 : w1.cell? ⟨w.heap.size + 1, 1, none⟩ = some (.int .i64 0) := by rw [blk_cell hr7]; rfl
  have c72 : w1.cell? ⟨w.heap.size + 1, 2, none⟩ = some (.int .i64 0) := by rw [blk_cell hr7]; rfl
  have c80 : w1.cell? ⟨w.heap.size + 2, 0, none⟩ = some (.int .i64 0) := by rw [blk_cell hr8]; rfl
  have c81 : w1.cell? ⟨w.heap.size + 2, 1, none⟩ = some (.int .i64 0) := by rw [blk_cell hr8]; rfl
  have c82 : w1.cell? ⟨w.heap.size + 2, 2, none⟩ = some (.int .i64 0) := by rw [blk_cell hr8]; rfl
  replace hr7 := Lib.hid hr7
  replace hr8 := Lib.hid hr8
  replace hr0 := Lib.hid hr0
  clear hb1 o1 hx1 hx0
  go_wp2
  refine bodyPost_ret (results_tcctt rfl _ _ (w.heap.size + 1) (w.heap.size + 2) #[.int .i64 0, .int .i64 0, .int .i64 0] #[.int .i64 0, .int .i64 0, .int .i64 0] rfl rfl (load_two (by omega) hr7.out hr8.out).1 (load_two (by omega) hr7.out hr8.out).2) rfl ?_
  exact ⟨⟨_, rfl, Kd.R_nil _ _ _ _ _⟩, below_set2 2 (below_set2 1 hBf.out _ _ _) _ _ _⟩
end Go.Proofs.YtbfedeedicnedaaGreat
end

section
set_option linter.unusedVariables false
set_option linter.unusedSimpArgs false
namespace Go.Proofs.YtbfedeedicnedaaGreat
open Go.RowKit
open Go.Proofs.YtbfedeedicnedaaGreatW.PrintWords
set_option maxRecDepth 100000 in
set_option maxHeartbeats 1000000 in
theorem changed_bad {H : Sh.Hp} {f root n x : Int} {A : Option Addr} {c : Nat} {w : World} {l : List Int} (hC : Nodes w A H) (hLa : ListsF H f) {ea : Int} (ha : Sh.sought H f root n x = (l, ea)) (he : ea ≠ 0) (has : Bool) :
    Calls Tryz.prog 81 #[.slice A H.length c, shV f root n, .int .i64 x, .bool has] w fun e w' => Out3 w.heap.size w' e [] 0 0 0 ea ∧ Below w.heap.size w w' := by
  obtain ⟨W0, hW0⟩ : ∃ W0, W0 = (w.alloc (.cells #[.int .i64 f, .int .i64 root, .int .i64 n] 25)).alloc zero25 := ⟨_, rfl⟩
  have hsz := Lib.hid (show W0.heap.size = w.heap.size + 2 by rw [hW0, World.size_alloc, World.size_alloc])
  have b1 := Lib.hid (show W0.heap[w.heap.size]? = some (.cells #[.int .i64 f, .int .i64 root, .int .i64 n] 25 (0, 0)) by
    rw [hW0]
    exact blk_alloc (heap_alloc_new w _) _)
  have b2 := Lib.hid (show W0.heap[w.heap.size + 1]? = some (.cells #[.int .i64 0, .int .i64 0, .int .i64 0] 25 (0, 0)) by
    have := heap_alloc_new (w.alloc (.cells #[.int .i64 f, .int .i64 root, .int .i64 n] 25)) zero25
    rw [World.size_alloc] at this
    rw [hW0]
    exact this)
  have hB0 := Lib.hid (show Below w.heap.size w W0 by rw [hW0]; exact two_alloc w _ _)
  have hBw := Lib.hid (fun W (hW : Below W0.heap.size W0 W) => (hB0.out.trans (hW.mono (by have := hsz.out; omega)) : Below w.heap.size w W))
  have hla := Lib.hid (fun W (hW : Below W0.heap.size W0 W) => by have := sought_calls H f root n x A c W (Kd.C_below hC (hBw.out W hW)) hLa; rw [ha] at this; exact this)
  have heb : (ea != 0) = true := bne_iff_ne.mpr he
  clear hC hLa ha he
  go_enter Tryz.func81, Tryz.ntmps81
  go_wp2_with fail
  rw [← hW0]
  clear hW0
  refine (hla.out _ (Below.refl _ _)).mono ?_
  rintro e w1 ⟨⟨v1, l1, rfl, o1, hx0, hx1⟩, hb1⟩
  have hr9 := blk_below b2.out hb1
  have hf9 := blk_frozen hr9
  have c90 : w1.cell? ⟨w.heap.size + 1, 0, none⟩ = some (.int .i64 0) := by rw [blk_cell hr9]; rfl
  have c91 : w1.cell? ⟨w.heap.size + 1, 1, none⟩ = some (.int .i64 0) := by rw [blk_cell hr9]; rfl
  have c92 : w1.cell? ⟨w.heap.size + 1, 2, none⟩ = some (.int .i64 0) := by rw [blk_cell hr9]; rfl
  have hBf := Lib.hid (hBw.out _ hb1)
  replace hr9 := Lib.hid hr9
  clear hb1 o1 hx1 hx0
  go_wp2
  refine bodyPost_ret (results_tct rfl _ _ (w.heap.size + 1) #[.int .i64 0, .int .i64 0, .int .i64 0] rfl (load_set3 hr9.out)) rfl ?_
  exact ⟨⟨_, rfl, Kd.R_nil _ _ _ _ _⟩, below_setk hBf.out (show w.heap.size ≤ w.heap.size + 1 by omega) _ _ _⟩
set_option maxRecDepth 100000 in
set_option maxHeartbeats 1000000 in
theorem changed_same {H : Sh.Hp} {f root n x : Int} {A : Option Addr} {c : Nat} {w : World} {l : List Int} (hC : Nodes w A H) (hLa : ListsF H f) (hfd : ¬ Digital f) (ha : Sh.sought H f root n x = (l, 0)) (has : Bool) (hh : l.contains x = has) (hll : l.length ≤ 5000) (hlH : H.length ≤ 100000) (hbig : ∀ p ∈ H, p.1.length ≤ 1000000 ∧ p.2.length ≤ 1000000) :
    Calls Tryz.prog 81 #[.slice A H.length c, shV f root n, .int .i64 x, .bool has] w fun e w' => Out3 w.heap.size w' e H f root n 0 ∧ Below w.heap.size w w' := by
  obtain ⟨W0, hW0⟩ : ∃ W0, W0 = (w.alloc (.cells #[.int .i64 f, .int .i64 root, .int .i64 n] 25)).alloc zero25 := ⟨_, rfl⟩
  have hsz := Lib.hid (show W0.heap.size = w.heap.size + 2 by rw [hW0, World.size_alloc, World.size_alloc])
  have b1 := Lib.hid (show W0.heap[w.heap.size]? = some (.cells #[.int .i64 f, .int .i64 root, .int .i64 n] 25 (0, 0)) by
    rw [hW0]
    exact blk_alloc (heap_alloc_new w _) _)
  have b2 := Lib.hid (show W0.heap[w.heap.size + 1]? = some (.cells #[.int .i64 0, .int .i64 0, .int .i64 0] 25 (0, 0)) by
    have := heap_alloc_new (w.alloc (.cells #[.int .i64 f, .int .i64 root, .int .i64 n] 25)) zero25
    rw [World.size_alloc] at this
    rw [hW0]
    exact this)
  have hB0 := Lib.hid (show Below w.heap.size w W0 by rw [hW0]; exact two_alloc w _ _)
  have hBw := Lib.hid (fun W (hW : Below W0.heap.size W0 W) => (hB0.out.trans (hW.mono (by have := hsz.out; omega)) : Below w.heap.size w W))
  have hla := Lib.hid (fun W (hW : Below W0.heap.size W0 W) => by have := sought_calls H f root n x A c W (Kd.C_below hC (hBw.out W hW)) hLa; rw [ha] at this; exact this)
  have hgr := Lib.hid (fun W (hW : Below W0.heap.size W0 W) => grown_calls A c H W (Kd.C_below hC (hBw.out W hW)) hlH hbig)
  have hfD := Lib.hid hfd
  have hct := Lib.hid (fun base v W (hW : Ints W base v l) => contains_calls hW (by omega) x)
  rw [hh] at hct
  have hb9 : (has == has) = true := beq_self_eq_true _
  clear hC hLa ha hbig hh hfd
  go_enter Tryz.func81, Tryz.ntmps81
  go_wp2_with fail
  rw [← hW0]
  clear hW0
  refine (hla.out _ (Below.refl _ _)).mono ?_
  rintro e w1 ⟨⟨v1, l1, rfl, o1, hx0, hx1⟩, hb1⟩
  obtain rfl : l1 = l := hx1 hfD.out
  have o1' := Lib.hid o1
  have hB1 := Lib.hid hb1
  obtain ⟨A1, c1, rfl, hc1, hC1⟩ := Kd.R_reads o1
  have p0 : w1.cell? ⟨w.heap.size, 0, none⟩ = some (.int .i64 f) := by rw [blk_cell (blk_below b1.out hb1)]; rfl
  clear hb1 o1 hx1 hx0 hC1
  have hgc := Lib.hid (hgr.out w1 hB1.out)
  obtain ⟨n1, hn1⟩ : ∃ n1, n1 = l1.length := ⟨_, rfl⟩
  rw [← hn1] at hll hc1 o1' ⊢
  replace hn1 := Lib.hid hn1
  go_wp2_with fail
  refine (hgc.out).mono ?_
  rintro e w3 ⟨hb, rfl, hH3, hB3⟩
  have hB3' := Lib.hid (hB1.out.trans (hB3.mono hB1.out.size))
  have o3 := Kd.R_below o1'.out hB3
  have hcc := Lib.hid (hct.out _ _ _ (by rw [hn1.out] at o3; exact o3))
  rw [← hn1.out] at hcc
  have hs2 := Lib.hid (show w.heap.size + 2 ≤ w1.heap.size by have := hB1.out.size; have := hsz.out; omega)
  replace hH3 := Lib.hid hH3
  clear hB3 o3
  go_wp2_with fail
  refine (hcc.out).mono ?_
  rintro e w5 ⟨rfl, rfl⟩
  obtain ⟨g9, hg9⟩ : ∃ g9, g9 = w.heap.size + 1 := ⟨_, rfl⟩
  obtain ⟨g5, hg5⟩ : ∃ g5, g5 = w.heap.size := ⟨_, rfl⟩
  have h56 := Lib.hid (show w5.heap[g5]? = some (.cells #[.int .i64 f, .int .i64 root, .int .i64 n] 25 (0, 0)) by rw [hg5]; exact blk_below b1.out hB3'.out)
  have h96 := Lib.hid (show ∃ a b c, w5.heap[g9]? = some (.cells #[a, b, c] 25 (0, 0)) by rw [hg9]; exact ⟨_, _, _, blk_below b2.out hB3'.out⟩)
  have hB6 := Lib.hid (hBw.out _ hB3'.out)
  have hH6 := hH3
  clear hH3 p0
  go_wp2
  rw [← hg9, ← hg5]
  replace hg9 := Lib.hid hg9
  replace hg5 := Lib.hid hg5
  obtain ⟨hq0, v5, hv5, hr5⟩ := hH6.out
  obtain ⟨A5, c5, rfl⟩ := Kd.R_slice hr5
  rw [sn_len] at hv5
  rw [sn_len] at hr5
  have hho := Lib.hid (show Hold1 hb g9 g5 (.slice A5 H.length c5) (.int .i64 f) (.int .i64 root) (.int .i64 n) w5 from ⟨⟨hv5, h56.out⟩, h96.out⟩)
  have hnes := Lib.hid (show hb ≠ g9 ∧ g5 ≠ g9 by have := hs2.out; have := hg9.out; have := hg5.out; omega)
  have hd6 := Lib.hid hho.out.drew
  have hd7 := Lib.hid (fun (x y z : Value) => (hho.out.set hnes.out x y z).drew)
  have hfin := Lib.hid (fun (x y z : Value) => (show Kd.R kSN 95 (((w5.setCell ⟨g9, 0, none⟩ x).setCell ⟨g9, 1, none⟩ y).setCell ⟨g9, 2, none⟩ z).drew w.heap.size (fun _ => True) (.slice A5 H.length c5) (sn H) ∧ Below w.heap.size w (((w5.setCell ⟨g9, 0, none⟩ x).setCell ⟨g9, 1, none⟩ y).setCell ⟨g9, 2, none⟩ z).drew from
    ⟨Kd.R_lower (out_set_d hr5 h96.out x y z) (by have := hs2.out; omega), (below_setk hB6.out (show w.heap.size ≤ g9 by rw [hg9.out]; omega) x y z).drew⟩))
  obtain ⟨-, k0, k1, k2, k3, f0, f1, f2, d0, d1, d2⟩ := hho.out.cells
  clear hv5 hr5 hq0 hH6 b1 b2 hla hgr hct hgc hcc hB1 hB3' o1' hc1 hB0 hBw hll
  go_region_held3 (fun W' => Hold1 hb g9 g5 (.slice A5 H.length c5) (.int .i64 f) (.int .i64 root) (.int .i64 n) W' ∧ W'.cell? ⟨hb, 0, none⟩ = some (.slice A5 H.length c5) ∧ W'.cell? ⟨g5, 0, none⟩ = some (.int .i64 f) ∧ W'.cell? ⟨g5, 1, none⟩ = some (.int .i64 root) ∧ W'.cell? ⟨g5, 2, none⟩ = some (.int .i64 n) ∧ W'.frozen? ⟨g9, 0, none⟩ = false ∧ W'.frozen? ⟨g9, 1, none⟩ = false ∧ W'.frozen? ⟨g9, 2, none⟩ = false ∧ W'.cell? ⟨g9, 0, none⟩ = some (heldAt g9 0 W') ∧ W'.cell? ⟨g9, 1, none⟩ = some (heldAt g9 1 W') ∧ W'.cell? ⟨g9, 2, none⟩ = some (heldAt g9 2 W'))
    (first
      | with_reducible exact Hold1.cells hd6.out
      | with_reducible exact Hold1.cells (hd7.out _ _ _)
      | with_reducible exact Hold1.cells (by with_reducible assumption)
      | fail)
    (first | fail)
  go_wp2
  refine bodyPost_ret (results_tct rfl _ _ g9 #[.int .i64 f, .int .i64 root, .int .i64 n] rfl (load_set3_d h96.out)) rfl ?_
  exact ⟨⟨_, by rfl, (hfin.out _ _ _).1⟩, (hfin.out _ _ _).2⟩
end Go.Proofs.YtbfedeedicnedaaGreat
end
