/-
  Proves ShapeMakesSaid (theorem shapeMakes_holds): the walk through the law, function 5, given the contracts of the program and of the document before it.
-/
import Derived.Test.YtbfedeedicnedaaGreatMk03
import Derived.Test.YtbfedeedicnedaaGreatWb01
import Derived.Test.YtbfedeedicnedaaGreatWb02
import Derived.Test.YtbfedeedicnedaaGreatWb03
import Derived.Test.YtbfedeedicnedaaGreatWb04
import Derived.Test.YtbfedeedicnedaaGreatWb05
import Derived.Test.YtbfedeedicnedaaGreatWb06
import Derived.Test.YtbfedeedicnedaaGreatWb07
import Derived.Test.YtbfedeedicnedaaGreatWb08
import Derived.Test.YtbfedeedicnedaaGreatWb09
import Derived.Test.YtbfedeedicnedaaGreatWb10
import Derived.Test.YtbfedeedicnedaaGreatWb11
import Derived.Test.YtbfedeedicnedaaGreatWb12
import Derived.Test.YtbfedeedicnedaaGreatWb13
import Derived.Test.YtbfedeedicnedaaGreatWb14
import Derived.Test.YtbfedeedicnedaaGreatWb15
import Derived.Test.YtbfedeedicnedaaGreatWb16
import Derived.Test.YtbfedeedicnedaaGreatWb17
import Derived.Test.YtbfedeedicnedaaGreatWb18
import Derived.Test.YtbfedeedicnedaaGreatWb19
import Derived.Test.YtbfedeedicnedaaGreatWb20
import Derived.Test.YtbfedeedicnedaaGreatWb21
import Derived.Test.YtbfedeedicnedaaGreatWb22
import Derived.Test.YtbfedeedicnedaaGreatWb23
import Derived.Test.YtbfedeedicnedaaGreatWb24
import Derived.Test.YtbfedeedicnedaaGreatWb25
import Derived.Test.YtbfedeedicnedaaGreatWb26
import Derived.Test.YtbfedeedicnedaaGreatWb27
import Derived.Test.YtbfedeedicnedaaGreatWb28
import Derived.Test.YtbfedeedicnedaaGreatWb29
import Derived.Test.YtbfedeedicnedaaGreatWb30
import Derived.Test.YtbfedeedicnedaaGreatWb31
import Derived.Test.YtbfedeedicnedaaGreatWb32
import Derived.Test.YtbfedeedicnedaaGreatWb33
import Derived.Test.YtbfedeedicnedaaGreatWb34
import Derived.Test.YtbfedeedicnedaaGreatWb35
import Derived.Test.YtbfedeedicnedaaGreatWb36
import Derived.Test.YtbfedeedicnedaaGreatWb37
import Derived.Test.YtbfedeedicnedaaGreatWb38
import Derived.Test.YtbfedeedicnedaaGreatWb39
import Derived.Test.YtbfedeedicnedaaGreatWb40
import Derived.Test.YtbfedeedicnedaaGreatWb41
import Derived.Test.YtbfedeedicnedaaGreatWb42
import Derived.Outline
import Derived.Deep.Heap
import Derived.Deep.DeepCutAuto
import Derived.Deep.RegionLaw
import Derived.Deep.RegionHeld3
import Derived.Test.YtbfedeedicnedaaGreatProg
import Derived.WalkKit
import Derived.KernelRfl
import Derived.WalkLawsBesides
import Derived.WalkSpells
import Derived.Deep.QuietTactic
import Derived.BigQuiet
import Derived.Lib.Hide
import Derived.Deep.LoopGhost
import Derived.Below
import Derived.Deep.Draws
import Derived.Deep.AppendLies
import Derived.Maps.AppendAt
import Derived.OwnWalk
import Derived.Laws.BytesArg
import Derived.Laws.MakeOwn
import Derived.Laws.OwnMore
import Derived.Deep.OwnRows
import Derived.Tactics
import Derived.Lib.ConvBytes
import Derived.Laws.Slices
import Derived.RowKit3
import Derived.WideLaws
import Derived.Deep.CutBlock
import Derived.Laws.Rows
import Derived.Lib.AppendStr
import Derived.ArgAppend
import Derived.Laws.IdiomCopy
import Derived.OrdersHeld
import Derived.Laws.BitsLemmas
import Derived.RowKit
import Derived.Laws.StructEq
import Derived.StillTailTactics
import Derived.Laws.CopyOwn
import Derived.Sort.OwnSortedInts
import Derived.Shelf.Sort.Plain
import Derived.Shelf.Bits.Mul64
import Derived.Shelf.Slices.Turned
import Derived.Ground.Names2Prog
import Derived.Shelf.Slices.Clone
import Derived.Shelf.Slices.CompactI
import Derived.Shelf.Slices.SearchI
import Derived.Shelf.Slices.Delete
import Derived.Shelf.Slices.Cells
import Derived.Shelf.Slices.In.SortNone
import Derived.Shelf.Slices.Empties
import Derived.Laws.EntriesVeiled
import Derived.Test.YtbfedeedicnedaaGreatRows
import Derived.ProofKit
import Derived.OpenShut
import Derived.ChangeOld
import Derived.SizedLaws
import Derived.SliceStrings
import Derived.Carry
import Derived.Lib.SmallJoins

section
set_option linter.unusedVariables false
set_option linter.unusedSimpArgs false
namespace Go.Proofs.YtbfedeedicnedaaGreat
open Go.RowKit
open Go.Proofs.YtbfedeedicnedaaGreatW.PrintWords
theorem Sh.sortF_len (l : List Int) : (Sh.sortF l).length ≤ l.length := by
  unfold Sh.sortF
  suffices h : ∀ (l o : List Int), (l.foldl Sh.withF o).length ≤ o.length + l.length by simpa using h l []
  intro l
  induction l with
  | nil => intro o; simp
  | cons x l ih =>
    intro o
    have h1 := ih (Sh.withF o x)
    have h2 := Sh.withF_len o x
    rw [List.foldl_cons, List.length_cons]
    omega
def Works : Prop := ∀ w : World, Calls Tryz.prog 15 #[] w fun e w' => e = .returned (.bool true) ∧ Below w.heap.size w w'
set_option maxRecDepth 100000 in
set_option maxHeartbeats 4000000 in
theorem makes_works (hwk : Works) (H : Sh.Hp) (f : Int) (l : List Int) (A : Option Addr) (c : Nat) (A1 : Option Addr) (c1 : Nat) (w : World) (hC : Nodes w A H) (hc : H.length ≤ c)
    (h : Sh.largeB H = true ∨ (200 < l.length ∧ l.length ≤ 2000) ∨ 2100 < l.length) :
    Calls Tryz.prog 5 #[.slice A H.length c, .int .i64 f, .slice A1 l.length c1] w fun e w' => e = .returned (.bool true) ∧ Below w.heap.size w w' := by
  have hwh := Lib.hid hwk
  cases hb : Sh.largeB H
  · have hlg := Lib.hid (large_calls H A c w hC hc hb)
    rw [hb] at h
    have h' : (200 < l.length ∧ l.length ≤ 2000) ∨ 2100 < l.length := by rcases h with h | h; cases h; exact h
    generalize l.length = n at *
    clear hC hb h hwk
    rcases h' with ⟨h1, h2⟩ | h1
    · go_enter Tryz.func5, Tryz.ntmps5
      go_wp2_with fail
      refine (hlg.out).mono ?_
      rintro e w1 ⟨rfl, hd⟩
      have hB := Lib.hid hd.below
      clear hd
      go_wp2_with fail
      refine (hwh.out _).mono ?_
      rintro e w2 ⟨rfl, hb⟩
      have hB2 := Lib.hid (below_step hB.out hb)
      clear hb
      go_wp2
      go_ret
      exact ⟨rfl, hB2.out⟩
    · have h2 : 200 < n := by omega
      have h3 : ¬ n ≤ 2000 := by omega
      go_enter Tryz.func5, Tryz.ntmps5
      go_wp2_with fail
      refine (hlg.out).mono ?_
      rintro e w1 ⟨rfl, hd⟩
      have hB := Lib.hid hd.below
      clear hd
      go_wp2_with fail
      refine (hwh.out _).mono ?_
      rintro e w2 ⟨rfl, hb⟩
      have hB2 := Lib.hid (below_step hB.out hb)
      clear hb
      go_wp2
      go_ret
      exact ⟨rfl, hB2.out⟩
  · have hlg := Lib.hid (large_calls H A c w hC hc hb)
    generalize l.length = n at *
    clear hC hb h hwk
    go_enter Tryz.func5, Tryz.ntmps5
    go_wp2_with fail
    refine (hlg.out).mono ?_
    rintro e w1 ⟨rfl, hd⟩
    have hB := Lib.hid hd.below
    clear hd
    go_wp2_with fail
    refine (hwh.out _).mono ?_
    rintro e w2 ⟨rfl, hb⟩
    have hB2 := Lib.hid (below_step hB.out hb)
    clear hb
    go_wp2
    go_ret
    exact ⟨rfl, hB2.out⟩
set_option maxRecDepth 100000 in
set_option maxHeartbeats 4000000 in
theorem makes_err (hwk : Works) (H : Sh.Hp) (f : Int) (l : List Int) (A : Option Addr) (c : Nat) (A1 : Option Addr) (c1 : Nat) (w : World) (hC : Nodes w A H) (hc : H.length ≤ c) (hL : Kd.C kI w A1 l.length l) (hc1 : l.length ≤ c1)
    (hb : Sh.largeB H = false) (hl : l.length ≤ 200 ∨ (2000 < l.length ∧ l.length ≤ 2100)) {e0 : Int} (he : PAll.madeE H f l = e0) (he0 : e0 ≠ 0)
    (hmk : ∀ W, Below w.heap.size w W → Calls Tryz.prog 29 #[.slice A H.length c, .int .i64 f, .slice A1 l.length c1] W fun e w' => Out3 W.heap.size w' e [] 0 0 0 e0 ∧ Below W.heap.size W w') :
    Calls Tryz.prog 5 #[.slice A H.length c, .int .i64 f, .slice A1 l.length c1] w fun e w' => e = .returned (.bool true) ∧ Below w.heap.size w w' := by
  have hwh := Lib.hid hwk
  have hlg := Lib.hid (large_calls H A c w hC hc hb)
  have hmh := Lib.hid hmk
  have hmd := Lib.hid (fun W (hW : Below w.heap.size w W) => by have := Made_calls H f l A c A1 c1 W (Kd.C_below hC hW) hc (Kd.C_below hL hW) hc1 (by omega); rw [he] at this; exact this)
  have heb : (e0 != e0) = false := by simp
  have he1 : (e0 != 0) = true := bne_iff_ne.mpr he0
  generalize l.length = n at *
  clear hC hL hb hwk hmk he he0
  have hfacts : Hid ((n ≤ 200) ∨ (2000 < n ∧ n ≤ 2100)) := Lib.hid hl
  by_cases h200 : 200 < n
  · have h1 : ¬ n ≤ 2000 := by rcases hl with h | h <;> omega
    have h4 : ¬ 2100 < n := by rcases hl with h | h <;> omega
    clear hl
    go_enter Tryz.func5, Tryz.ntmps5
    go_wp2_with fail
    refine (hlg.out).mono ?_
    rintro e w1 ⟨rfl, hd⟩
    have hB := Lib.hid hd.below
    clear hd
    have hmw := Lib.hid (hmh.out _ hB.out)
    go_wp2_with fail
    refine (hmw.out).mono ?_
    rintro e w2 ⟨⟨v, rfl, hR⟩, hb⟩
    obtain ⟨A7, c7, hv⟩ := Kd.R_slice hR
    have hv' : v = .slice A7 0 c7 := hv
    subst hv'
    have hB2 := Lib.hid (below_step hB.out hb)
    have hB3 := Lib.hid (show Below w.heap.size w (w2.alloc (.cells #[.int .i64 0, .int .i64 0, .int .i64 0] 25)) from hB2.out.alloc hB2.out.size _)
    have hmd3 := Lib.hid (hmd.out _ hB3.out)
    clear hb hR hmw hv
    go_wp2_with fail
    refine (hmd3.out).mono ?_
    rintro e w3 ⟨rfl, nq, rfl⟩
    have hB4 := Lib.hid (pw_below_drewN hB3.out nq)
    have hng := Lib.hid (nothing_calls A7 c7 ((w2.alloc (.cells #[.int .i64 0, .int .i64 0, .int .i64 0] 25)).drewN nq))
    clear hmd3
    go_wp2_with fail
    refine (hng.out).mono ?_
    rintro e w4 ⟨rfl, hb⟩
    have hB5 := Lib.hid (below_step hB4.out hb)
    clear hb
    go_wp2_with fail
    refine (hwh.out _).mono ?_
    rintro e w5 ⟨rfl, hb⟩
    have hB6 := Lib.hid (below_step hB5.out hb)
    clear hb
    go_wp2
    go_ret
    exact ⟨rfl, hB6.out⟩
  · have h4 : ¬ 2100 < n := by omega
    clear hl
    go_enter Tryz.func5, Tryz.ntmps5
    go_wp2_with fail
    refine (hlg.out).mono ?_
    rintro e w1 ⟨rfl, hd⟩
    have hB := Lib.hid hd.below
    clear hd
    have hmw := Lib.hid (hmh.out _ hB.out)
    go_wp2_with fail
    refine (hmw.out).mono ?_
    rintro e w2 ⟨⟨v, rfl, hR⟩, hb⟩
    obtain ⟨A7, c7, hv⟩ := Kd.R_slice hR
    have hv' : v = .slice A7 0 c7 := hv
    subst hv'
    have hB2 := Lib.hid (below_step hB.out hb)
    have hB3 := Lib.hid (show Below w.heap.size w (w2.alloc (.cells #[.int .i64 0, .int .i64 0, .int .i64 0] 25)) from hB2.out.alloc hB2.out.size _)
    have hmd3 := Lib.hid (hmd.out _ hB3.out)
    clear hb hR hmw hv
    go_wp2_with fail
    refine (hmd3.out).mono ?_
    rintro e w3 ⟨rfl, nq, rfl⟩
    have hB4 := Lib.hid (pw_below_drewN hB3.out nq)
    have hng := Lib.hid (nothing_calls A7 c7 ((w2.alloc (.cells #[.int .i64 0, .int .i64 0, .int .i64 0] 25)).drewN nq))
    clear hmd3
    go_wp2_with fail
    refine (hng.out).mono ?_
    rintro e w4 ⟨rfl, hb⟩
    have hB5 := Lib.hid (below_step hB4.out hb)
    clear hb
    go_wp2_with fail
    refine (hwh.out _).mono ?_
    rintro e w5 ⟨rfl, hb⟩
    have hB6 := Lib.hid (below_step hB5.out hb)
    clear hb
    go_wp2
    go_ret
    exact ⟨rfl, hB6.out⟩
set_option maxRecDepth 100000 in
set_option maxHeartbeats 4000000 in
theorem makes_good (hwk : Works) (H : Sh.Hp) (f : Int) (l : List Int) (A : Option Addr) (c : Nat) (A1 : Option Addr) (c1 : Nat) (w : World) (hC : Nodes w A H) (hc : H.length ≤ c) (hL : Kd.C kI w A1 l.length l) (hc1 : l.length ≤ c1)
    (hb : Sh.largeB H = false) (hl : l.length ≤ 200) (h30 : H.length ≤ 3000) (hf : 1 ≤ f ∧ f ≤ 5) (hel : (l.any fun x => !(Sh.el x)) = false) :
    Calls Tryz.prog 5 #[.slice A H.length c, .int .i64 f, .slice A1 l.length c1] w fun e w' => e = .returned (.bool true) ∧ Below w.heap.size w w' := by
  obtain ⟨h400, hsm⟩ := (Sh.largeB_small hb).2 h30
  have hbig : ∀ p ∈ H, p.1.length ≤ 1000000 ∧ p.2.length ≤ 1000000 := fun p hp => ⟨by have := (hsm p hp).1; omega, by have := (hsm p hp).2; omega⟩
  have he : PAll.madeE H f l = 0 := by
    unfold PAll.madeE
    rw [if_neg (by omega), if_pos hf, if_neg (by rw [hel]; decide)]
  have hwh := Lib.hid hwk
  have hlg := Lib.hid (large_calls H A c w hC hc hb)
  have hmh := Lib.hid (fun W (hW : Below w.heap.size w W) => make_ok (c := c) (c1 := c1) (Kd.C_below hC hW) (Kd.C_below hL hW) ⟨h30, by omega⟩ hf hel hbig)
  have hmd := Lib.hid (fun W (hW : Below w.heap.size w W) => by have := Made_calls H f l A c A1 c1 W (Kd.C_below hC hW) hc (Kd.C_below hL hW) hc1 (by omega); rw [he] at this; exact this)
  have hso := Lib.hid (fun W (hW : Below w.heap.size w W) => Sorted_calls l A1 c1 W (Kd.C_below hL hW) (by omega))
  have hsl : (Sh.sortF l).length ≤ l.length := Sh.sortF_len l
  have hho := Lib.hid (fun (K : Sh.Hp) (r : Int) (AG : Option Addr) (cG : Nat) (A2 : Option Addr) (c2 : Nat) (W : World) (hW : Below w.heap.size w W) (hH : Sh.Has H K f r (Sh.sortF l) (2 * (Sh.sortF l).length + 80)) hG hcG hL2 hc2 =>
    holds_has hH (n := (Sh.sortF l).length) (m' := 2 * ((l.length : Int) + 40)) rfl (by omega) (by omega) A c AG cG A2 c2 W (Kd.C_below hC hW) hc hG hcG hL2 hc2 (by omega) (by omega) hbig)
  obtain ⟨s, hs⟩ : ∃ s, s = Sh.sortF l := ⟨_, rfl⟩
  rw [← hs] at hmh hso hho hsl
  replace hsl := Lib.hid hsl
  replace hs := Lib.hid hs
  generalize l.length = n at *
  have hw1 : IntKind.i64.wrap ((n : Int) + 40) = (n : Int) + 40 := IntWalk.i64_in _ (by omega)
  have hw2 : IntKind.i64.wrap (2 * ((n : Int) + 40)) = 2 * ((n : Int) + 40) := IntWalk.i64_in _ (by omega)
  have h3 : ¬ 200 < n := by omega
  have h4 : ¬ 2100 < n := by omega
  replace hw1 := Lib.hid hw1
  replace hw2 := Lib.hid hw2
  clear hC hL hb hwk he hel hbig hsm hl h30 h400
  go_enter Tryz.func5, Tryz.ntmps5
  go_wp2_with fail
  refine (hlg.out).mono ?_
  rintro e w1 ⟨rfl, hd⟩
  have hB := Lib.hid hd.below
  clear hd
  have hmw := Lib.hid (hmh.out _ hB.out)
  go_wp2_with fail
  refine (hmw.out).mono ?_
  rintro e w2 ⟨⟨A7, c7, K, r, rfl, hR, hHas⟩, hb⟩
  have hB2 := Lib.hid (below_step hB.out hb)
  obtain ⟨m, hm⟩ : ∃ m : Int, m = (s.length : Int) := ⟨_, rfl⟩
  rw [← hm]
  replace hm := Lib.hid hm
  obtain ⟨q, hq⟩ : ∃ q, q = K.length := ⟨_, rfl⟩
  rw [← hq] at hR ⊢
  replace hq := Lib.hid hq
  have hRh := Lib.hid hR
  have hHash := Lib.hid hHas
  have hB3 := Lib.hid (show Below w.heap.size w (w2.alloc (.cells #[.int .i64 f, .int .i64 r, .int .i64 m] 25)) from hB2.out.alloc hB2.out.size _)
  have hB23 := Lib.hid (show Below w2.heap.size w2 (w2.alloc (.cells #[.int .i64 f, .int .i64 r, .int .i64 m] 25)) from (Below.refl _ _).alloc (Nat.le_refl _) _)
  have hn3 := Lib.hid (show (w2.alloc (.cells #[.int .i64 f, .int .i64 r, .int .i64 m] 25)).heap[w2.heap.size]? = some (.cells #[.int .i64 f, .int .i64 r, .int .i64 m] 25 (0, 0)) from heap_alloc_new _ _)
  have hmd3 := Lib.hid (hmd.out _ hB3.out)
  clear hb hR hmw hHas
  go_wp2_with fail
  refine (hmd3.out).mono ?_
  rintro e w3 ⟨rfl, nq, rfl⟩
  obtain ⟨W4, hW4⟩ : ∃ W4, W4 = (w2.alloc (.cells #[.int .i64 f, .int .i64 r, .int .i64 m] 25)).drewN nq := ⟨_, rfl⟩
  have hB4 := Lib.hid (show Below w.heap.size w W4 by rw [hW4]; exact pw_below_drewN hB3.out nq)
  have hX4 := Lib.hid (show W4.heap[w2.heap.size]? = some (.cells #[.int .i64 f, .int .i64 r, .int .i64 m] 25 (0, 0)) by rw [hW4]; exact blk_drewN hn3.out nq)
  have hR4 := Lib.hid (show Kd.R kSN 95 W4 0 (fun _ => True) (.slice A7 q c7) (sn K) by rw [hW4]; exact Kd.R_below hRh.out (pw_below_drewN hB23.out nq))
  obtain ⟨g8, hg8⟩ : ∃ g, g = w2.heap.size := ⟨_, rfl⟩
  rw [← hg8] at hX4
  go_upto_region 9 with fail
  rw [← hW4, ← hg8]
  clear hW4 hg8 hn3 hB23 hB3 hRh hmd hmd3 hmh hlg
  have hBd := Lib.hid (show Below W4.heap.size W4 W4.drew from (Below.refl _ _).drew)
  have hkk := Lib.hid (fun W1 (hW : Below W4.heap.size W4 W1) => (⟨hW, by rw [blk_cell (blk_below hX4.out hW)]; rfl, by rw [blk_cell (blk_below hX4.out hW)]; rfl, by rw [blk_cell (blk_below hX4.out hW)]; rfl⟩ : Below W4.heap.size W4 W1 ∧ W1.cell? ⟨g8, 0, none⟩ = some (.int .i64 f) ∧ W1.cell? ⟨g8, 1, none⟩ = some (.int .i64 r) ∧ W1.cell? ⟨g8, 2, none⟩ = some (.int .i64 m)))
  have hsoW := Lib.hid (fun W1 (hW : Below W4.heap.size W4 W1) => hso.out W1 (below_step hB4.out hW))
  have hhoW := Lib.hid (fun A2 c2 W1 (hW : Below W4.heap.size W4 W1) (hL2 : Kd.C kI W1 A2 s.length s) (hc2 : s.length ≤ c2) => (by
    have hrr := Kd.R_reads' (Kd.R_below hR4.out hW)
    rw [sn_len, ← hq.out] at hrr
    have := hho.out K r A7 c7 A2 c2 W1 (below_step hB4.out hW) hHash.out (by show Kd.C kSN W1 A7 K.length (sn K); rw [← hq.out]; exact hrr.2.2) (by rw [← hq.out]; exact hrr.2.1) hL2 hc2
    rw [← hq.out, ← hm.out] at this
    exact this : Calls Tryz.prog 32 #[.slice A H.length c, .slice A7 q c7, shV f r m, .int .i64 f, .slice A2 s.length c2, .int .i64 (2 * ((n : Int) + 40))] W1 fun e w' => e = .returned (.bool true) ∧ Below W1.heap.size W1 w'))
  have hsz4 := Lib.hid (fun W1 (hW : Below W4.heap.size W4 W1) => (below_step hB4.out hW : Below w.heap.size w W1))
  obtain ⟨s', hs'⟩ : ∃ s', s' = s.length := ⟨_, rfl⟩
  have hw1' := hw1.out
  have hw2' := hw2.out
  go_region_held3 (fun W1 => Below W4.heap.size W4 W1 ∧ W1.cell? ⟨g8, 0, none⟩ = some (.int .i64 f) ∧ W1.cell? ⟨g8, 1, none⟩ = some (.int .i64 r) ∧ W1.cell? ⟨g8, 2, none⟩ = some (.int .i64 m))
    (first
      | exact hkk.out _ (by assumption)
      | exact hkk.out _ hBd.out
      | fail)
    (first
      | (go_at_call 33; refine (hsoW.out _ ?hl).mono ?_; (case hl => first | assumption | exact hBd.out); rintro e wA ⟨⟨A3, c3, rfl, hc3, hC3⟩, hbA⟩; have hBA : Below W4.heap.size W4 wA := (by first | exact below_step hBd.out hbA | exact below_step (by assumption) hbA); replace hC3 := Lib.hid hC3; replace hc3 := Lib.hid hc3; clear hbA)
      | (go_at_call 32; refine (hhoW.out _ _ _ hBA hC3.out hc3.out).mono ?_; rintro e wF ⟨rfl, hbF⟩; have hBF : Below W4.heap.size W4 wF := below_step hBA hbF; clear hbF)
      | (go_at_call 15; refine (hwh.out _).mono ?_; rintro e wG ⟨rfl, hbG⟩; have hBG : Below W4.heap.size W4 wG := below_step hBF hbG; clear hbG))
  all_goals
    have hfin := Lib.hid (hsz4.out _ hBG)
    go_wp2
    go_ret
    exact ⟨rfl, hfin.out⟩
end Go.Proofs.YtbfedeedicnedaaGreat
end

section
set_option linter.unusedVariables false
set_option linter.unusedSimpArgs false
namespace Go.Proofs.YtbfedeedicnedaaGreat
open Go.RowKit
open Go.Proofs.YtbfedeedicnedaaGreatW.PrintWords
theorem ShapeMakes_law (H : Sh.Hp) (A : Option Addr) (c : Nat) (hc : H.length ≤ c) {w : World} (hC : Nodes w A H) (f : Int) (l : List Int) (A1 : Option Addr) (c1 : Nat) (hc1 : l.length ≤ c1) (hL : Kd.C kI w A1 l.length l) (hsh : w.ShapedOpen Tryz.prog) :
    Calls Tryz.prog 5 #[.slice A H.length c, .int .i64 f, .slice A1 l.length c1] w fun e w' => e = .returned (.bool true) ∧ Below w.heap.size w w' := by
  by_cases hb : Sh.largeB H = true
  · exact makes_works works_calls H f l A c A1 c1 w hC hc (.inl hb)
  have hb' : Sh.largeB H = false := by simpa using hb
  by_cases h2 : (200 < l.length ∧ l.length ≤ 2000) ∨ 2100 < l.length
  · exact makes_works works_calls H f l A c A1 c1 w hC hc (.inr h2)
  have hl : l.length ≤ 200 ∨ (2000 < l.length ∧ l.length ≤ 2100) := by omega
  have h31 := (Sh.largeB_small hb').1
  by_cases h3 : 3000 < H.length ∨ 2000 < l.length
  · exact makes_err works_calls H f l A c A1 c1 w hC hc hL hc1 hb' hl (e0 := 3) (by unfold PAll.madeE; rw [if_pos h3]) (by decide) (fun W hW => Make_long h3 (by omega) (by omega))
  by_cases hf : 1 ≤ f ∧ f ≤ 5
  · cases hel : (l.any fun x => !(Sh.el x))
    · exact makes_good works_calls H f l A c A1 c1 w hC hc hL hc1 hb' (by omega) (by omega) hf hel
    · exact makes_err works_calls H f l A c A1 c1 w hC hc hL hc1 hb' hl (e0 := 2) (by unfold PAll.madeE; rw [if_neg h3, if_pos hf, if_pos hel]) (by decide) (fun W hW => Make_bad (Kd.C_below hL hW) (by omega) (.inr hel))
  · exact makes_err works_calls H f l A c A1 c1 w hC hc hL hc1 hb' hl (e0 := 2) (by unfold PAll.madeE; rw [if_neg h3, if_neg hf]) (by decide) (fun W hW => Make_bad (Kd.C_below hL hW) (by omega) (.inl hf))
end Go.Proofs.YtbfedeedicnedaaGreat
end

section
set_option linter.unusedVariables false
set_option linter.unusedSimpArgs false
namespace Go.Proofs.YtbfedeedicnedaaGreat
open Go.ChangeShapes Go.WideShapes Go.ChangeAt Go.RowKit
open Go.Proofs.YtbfedeedicnedaaGreatW.PrintWords
theorem ownK : ownKnob Tryz.prog.godebug = none := by kernel_rfl
theorem laidOut : laidOutB Tryz.prog = true := by kernel_rfl
def nodeOk (P : Program) (t : TypeId) : Bool := match P.underlying t with
  | some (.struct fs) => (match fs.toList with
    | [f0, f1] => (f0.type == 28 && ((f0.offset == 0) && (P.cellsOf f0.type == 1))) && (f1.type == 28 && ((f1.offset == 1) && (P.cellsOf f1.type == 1)))
    | _ => false)
  | _ => false
theorem nodeOk_open {P : Program} {t : TypeId} (h : nodeOk P t = true) : ∃ f0 f1 : Field, P.underlying t = some (.struct #[f0, f1]) ∧ (f0.type = 28 ∧ f0.offset = 0 ∧ P.cellsOf f0.type = 1) ∧ (f1.type = 28 ∧ f1.offset = 1 ∧ P.cellsOf f1.type = 1) := by
  unfold nodeOk at h
  split at h
  · rename_i fs hu
    split at h
    · rename_i f0 f1 hf
      simp only [Bool.and_eq_true, beq_iff_eq] at h
      obtain ⟨⟨a0, a1, a2⟩, ⟨b0, b1, b2⟩⟩ := h
      have : fs = #[f0, f1] := by
        apply Array.toList_inj.1
        exact hf
      exact ⟨f0, f1, by rw [hu, this], ⟨a0, a1, a2⟩, ⟨b0, b1, b2⟩⟩
    · cases h
  · cases h
theorem node_ok : nodeOk Tryz.prog 95 = true := by kernel_rfl
theorem node_underlying : Tryz.prog.underlying 22 = some (.slice 95) := by kernel_rfl
theorem node_cellsOf : Tryz.prog.cellsOf 95 = 2 := by kernel_rfl
theorem int_cellsOf : Tryz.prog.cellsOf 3 = 1 := by kernel_rfl
theorem addr_add (ad : Addr) (i j : Nat) : (ad.add i).add j = ad.add (i + j) := by
  unfold Addr.add
  by_cases h0 : i = 0
  · simp [h0]
  · by_cases hj0 : j = 0
    · simp [h0, hj0]
    · simp [h0, hj0, Nat.add_assoc]
theorem open_nums {H : Type} {enc : TypeId × Value → H} {w : World} {base : Nat} {spare : Nat → Bool} {held : Bool} {n : Nat} {cs : List Value} {y : DataW H × List MemPlace}
    (h : DataW.trod enc Tryz.prog w base spare held n 28 cs = some y) : ∃ (A : Option Addr) (len cap : Nat) (l : List Int), cs = [.slice A len cap] ∧ l.length = len ∧ len ≤ cap ∧ Kd.C kI w A len l := by
  rcases DataW.trod_slice Tryz.underlying28 h with ⟨hcs, _⟩ | ⟨ad, len', cap', elems, rest, n, _, hcs, _, hb, hl, hm, hlen, hel, _, _⟩
  · exact ⟨none, 0, 0, [], hcs, rfl, Nat.le_refl _, rfl, Nat.zero_le _, fun h => absurd h (by omega)⟩
  · have each : ∀ i, i < len' → ∃ x : Int, w.cell? (ad.add i) = some (.int .i64 x) := by
      intro i hi
      have h1 := hel i hi
      rw [List.getElem?_eq_getElem (by omega), Option.bind_eq_some_iff, int_cellsOf] at h1
      obtain ⟨cs, hcs, htr⟩ := h1
      obtain ⟨x, hx, _, _⟩ := DataW.trod_int (k := .i64) Tryz.underlying3 htr
      obtain ⟨_, _, hcell⟩ := World.cells?_some hcs
      have h2 := hcell 0 (by omega)
      rw [hx] at h2
      rw [addr_add, Nat.mul_one, Nat.add_zero] at h2
      exact ⟨x, h2⟩
    refine ⟨_, _, _, (List.range len').map fun i => if hi : i < len' then Classical.choose (each i hi) else 0, hcs, by simp, hl, by simp, ?_, fun _ => ⟨ad, rfl, fun j p hj => ?_⟩⟩
    · have : maxLen ≤ 9223372036854775807 := by decide
      omega
    · rw [List.getElem?_map] at hj
      obtain ⟨i, hi, rfl⟩ := Option.map_eq_some_iff.1 hj
      have hlt : j < len' := by
        have := (List.getElem?_eq_some_iff.1 hi).1
        simpa using this
      rw [List.getElem?_range hlt] at hi
      cases hi
      rw [dif_pos hlt]
      refine ⟨_, rfl, rfl, fun q u hq => ?_⟩
      have hq0 : q = 0 := by
        have := (List.getElem?_eq_some_iff.1 hq).1
        simp at this
        omega
      subst hq0
      cases hq
      have := Classical.choose_spec (each j hlt)
      show w.cell? (ad.add (j * 1 + 0)) = _
      rw [Nat.mul_one, Nat.add_zero]
      exact this
theorem open_list {H : Type} {enc : TypeId × Value → H} {w : World} {a : Option Addr} {len cap : Nat} {d : DataW H} {ps : List MemPlace}
    (h : DataW.Trod enc Tryz.prog w 0 (fun _ => true) true 28 (.slice a len cap) d ps) : ∃ l : List Int, l.length = len ∧ len ≤ cap ∧ Kd.C kI w a len l := by
  obtain ⟨fuel, hf⟩ := h
  obtain ⟨A, len', cap', l, hcs, h1, h2, h3⟩ := open_nums hf
  simp [Value.cells] at hcs
  obtain ⟨rfl, rfl, rfl⟩ := hcs
  exact ⟨l, h1, h2, h3⟩
set_option maxRecDepth 100000 in
theorem open_node {H : Type} {enc : TypeId × Value → H} {w : World} {base : Nat} {spare : Nat → Bool} {held : Bool} {n : Nat} {cs : List Value} {y : DataW H × List MemPlace}
    (h : DataW.trod enc Tryz.prog w base spare held n 95 cs = some y) : ∃ x : SN, kSN.K w x cs ∧ cs.length = 2 := by
  obtain ⟨f0, f1, hu, ⟨a0, a1, a2⟩, ⟨b0, b1, b2⟩⟩ := nodeOk_open node_ok
  obtain ⟨xs, m, _, _, hl, hlen, hx⟩ := DataW.trod_struct hu h
  rw [node_cellsOf] at hl
  have hlen2 : xs.length = 2 := hlen
  have t0 := hx 0 f0 rfl
  have t1 := hx 1 f1 rfl
  rw [a1, a2, a0, List.getElem?_eq_getElem (by omega)] at t0
  rw [b1, b2, b0, List.getElem?_eq_getElem (by omega)] at t1
  obtain ⟨A0, n0, c0, l0, e0, h0, hc0, g0⟩ := open_nums t0
  obtain ⟨A1, n1, c1, l1, e1, h1, hc1, g1⟩ := open_nums t1
  match cs, hl with
  | [u0, u1], _ =>
    simp at e0 e1
    subst h0
    subst h1
    rw [e0, e1]
    exact ⟨⟨l0, l1⟩, PAll.k95_mk w ⟨l0, l1⟩ hc0 g0 hc1 g1, rfl⟩
theorem open_heap {H : Type} {enc : TypeId × Value → H} {w : World} {a : Option Addr} {len cap : Nat} {d : DataW H} {ps : List MemPlace}
    (h : DataW.Trod enc Tryz.prog w 0 (fun _ => true) true 22 (.slice a len cap) d ps) : ∃ K : Sh.Hp, K.length = len ∧ len ≤ cap ∧ Nodes w a K := by
  obtain ⟨fuel, hf⟩ := h
  rcases DataW.trod_slice node_underlying hf with ⟨hcs, _⟩ | ⟨ad, len', cap', elems, rest, n, _, hcs, _, hb, hl, hm, hlen, hel, _, _⟩
  · simp [Value.cells] at hcs
    obtain ⟨rfl, rfl, rfl⟩ := hcs
    exact ⟨[], rfl, Nat.le_refl _, rfl, Nat.zero_le _, fun h => absurd h (by show ¬ _; simp)⟩
  · simp [Value.cells] at hcs
    obtain ⟨rfl, rfl, rfl⟩ := hcs
    have each : ∀ i, i < len → ∃ p : SN × List Value, kSN.K w p.1 p.2 ∧ p.2.length = 2 ∧ ∀ j u, p.2[j]? = some u → w.cell? (ad.add (i * 2 + j)) = some u := by
      intro i hi
      have h1 := hel i hi
      rw [List.getElem?_eq_getElem (by omega), Option.bind_eq_some_iff, node_cellsOf] at h1
      obtain ⟨cs, hcs, htr⟩ := h1
      obtain ⟨x, hK, h2l⟩ := open_node htr
      obtain ⟨_, _, hcell⟩ := World.cells?_some hcs
      refine ⟨(x, cs), hK, h2l, fun j u hj => ?_⟩
      have hj2 : j < 2 := by
        have := (List.getElem?_eq_some_iff.1 hj).1
        simp only at this
        omega
      have h2 := hcell j hj2
      rw [hj] at h2
      rw [addr_add] at h2
      exact h2
    have hsn : ∀ xs : List SN, sn (xs.map fun x => (x.f0, x.f1)) = xs := fun xs => by
      unfold sn
      rw [List.map_map]
      exact List.map_id _
    obtain ⟨xs, hxs⟩ : ∃ xs : List SN, xs = (List.range len).map fun i => if hi : i < len then (Classical.choose (each i hi)).1 else ⟨[], []⟩ := ⟨_, rfl⟩
    have hxl : xs.length = len := by rw [hxs]; simp
    refine ⟨xs.map fun x => (x.f0, x.f1), by simp [hxl], hl, ?_⟩
    show Kd.C kSN w (some ad) (xs.map fun x => (x.f0, x.f1)).length (sn _)
    rw [hsn, List.length_map]
    refine ⟨rfl, ?_, fun _ => ⟨ad, rfl, fun j p hj => ?_⟩⟩
    · have : maxLen ≤ 9223372036854775807 := by decide
      omega
    · rw [hxs, List.getElem?_map] at hj
      obtain ⟨i, hi, rfl⟩ := Option.map_eq_some_iff.1 hj
      have hlt : j < len := by
        have := (List.getElem?_eq_some_iff.1 hi).1
        simpa using this
      rw [List.getElem?_range hlt] at hi
      cases hi
      rw [dif_pos hlt]
      have hsp := Classical.choose_spec (each j hlt)
      exact ⟨_, hsp.2.1, hsp.1, hsp.2.2⟩
set_option maxRecDepth 100000 in
theorem handed_shaped {H : Type} {enc : TypeId × Value → H} {a : Assume} {C : Checked} {os : Os} {f : FuncId} {fn : Func} {s : ChangeSpec} {conds : List PathCond} {apart fresh handsOn again : Bool}
    (own : ownKnob C.prog.godebug = none) (started : os.Started) (noInit : C.prog.inits.idxOf? f = none) (hfn : C.prog.funcs[f]? = some fn)
    (witness : ∃ (w : World) (tape : Tape) (i : Input), w.os = os ∧ (w.forCall tape i).Shaped C.prog ∧ i.vars = [] ∧ Input.okWide C.prog (w.forCall tape i) .any w.heap.size f i ∧
      s.pre6 enc C.prog fn conds apart (w.forCall tape i).memory i.args ∧ a.holds C.prog (lone (Frame.enter C.prog f i.args .normal) [] (w.forCall tape i)))
    (contract : ∀ (W : World) (base : Nat) (args : Array Value) (ds gs : List (DataW H)) (before : List MemPlace),
      (∀ (j : Nat) t v, fn.params[j]? = some t → args[j]? = some v → Value.okWide C.prog W .any base t v) →
      DataW.Whole enc C.prog fn.params.toList s.vars apart W args.toList ds gs before →
      conds.all (PathCond.test C.prog ⟨fn.params.toList, ds, s.plain.varTypes C.prog, gs⟩) = true →
      W.ShapedOpen C.prog →
      Calls C.prog f args W fun e W' => ∃ v, e = .returned v ∧ s.post enc C.prog fn apart fresh handsOn again W args v W') :
    ReturnsInHanded a C os f .any (s.pre6 enc C.prog fn conds apart) (s.post enc C.prog fn apart fresh handsOn again) := by
  refine returnsInHanded_of_calls own started noInit witness ?_
  intro w tape i _ hsh _ hok hpre hholds
  obtain ⟨_, _, _, fn', hfn', _, _, _, _, hval⟩ := hok
  have e : fn' = fn := Option.some.inj (hfn'.symm.trans hfn)
  subst e
  obtain ⟨⟨ds, gs, before, hw, hc⟩, _⟩ := hpre
  have hw' := DataW.Whole.of_heap (w' := w.forCall tape i) (by rfl) hw
  refine (contract (w.forCall tape i) w.heap.size i.args ds gs before hval hw' hc hsh).mono fun e W' ⟨v, he, hp⟩ => ?_
  subst he
  exact ChangeSpec.post_blind hp
theorem trod_low {H : Type} {enc : TypeId × Value → H} {P : Program} {w : World} {t : TypeId} {v : Value} {d : DataW H} {ps : List MemPlace} (h : DataW.Trod enc P w 0 (fun _ => true) true t v d ps) : ∀ x ∈ ps, x.block < w.heap.size := by
  obtain ⟨m, hm⟩ := h
  exact DataW.trod_lt m _ _ _ hm
end Go.Proofs.YtbfedeedicnedaaGreat
end

section
set_option linter.unusedVariables false
set_option linter.unusedSimpArgs false
namespace Go.Proofs.YtbfedeedicnedaaGreat
open Go.ChangeShapes Go.WideShapes Go.ChangeAt Go.RowKit
open Go.Proofs.YtbfedeedicnedaaGreatW.PrintWords
set_option maxRecDepth 100000 in
theorem liftedShapeMakes (os : Os) (started : os.Started) (H : Type) (enc : TypeId × Value → H) :
    ReturnsInHanded {} Tryz.checked os 5 .any (Rows.shapeMakesSpec.pre6 enc Tryz.prog Tryz.f5 Rows.shapeMakesRow.domain false) (Rows.shapeMakesSpec.post enc Tryz.prog Tryz.f5 false true false false) := by
  refine handed_shaped (C := Tryz.checked) ownK started (by kernel_rfl) Tryz.func5
    (ChangeSpec.witness6 (enc := enc) (C := Tryz.checked) false ⟨#[], #[.slice none 0 0, .int .i64 0, .slice none 0 0], []⟩ 8 (by kernel_rfl) (by kernel_rfl) (by kernel_rfl) (by kernel_rfl)) ?_
  intro W base args ds gs before hval0 hW hcnd hsh
  have hval : ∀ (j : Nat) t v, Tryz.f5.params[j]? = some t → args[j]? = some v → Value.okWide Tryz.prog W .any base t v := hval0
  have hW' := hW
  obtain ⟨p, q, hA0, hV, rfl, hfz, hnd⟩ := hW
  have hA : DataW.TrodAll enc Tryz.prog W 0 (fun _ => true) true Tryz.f5.params.toList args.toList ds p := hA0
  rw [Tryz.params5] at hA hval
  obtain ⟨v0, vs0, d0, ds0, p0, q0, hargs, rfl, rfl, h0, r0⟩ := trodAll_cons hA
  obtain ⟨v1, vs1, d1, ds1, p1, q1, rfl, rfl, rfl, h1, r1⟩ := trodAll_cons r0
  obtain ⟨v2, vs2, d2, ds2, p2, q2, rfl, rfl, rfl, h2, r2⟩ := trodAll_cons r1
  obtain ⟨rfl, rfl, rfl⟩ := trodAll_nil r2
  obtain rfl : args = #[v0, v1, v2] := by cases args; simp_all
  obtain ⟨rfl, rfl⟩ := trodVars_none hV
  obtain ⟨a0, len0, cap0, rfl⟩ := okWide_slice Tryz.underlying22 (hval 0 22 v0 rfl rfl)
  obtain ⟨x0, rfl, m0, c0⟩ := open_heap h0
  obtain ⟨x1, rfl, rfl, rfl, w1⟩ := open_int Tryz.underlying23 (hval 1 23 v1 rfl rfl) h1
  obtain ⟨a2, len2, cap2, rfl⟩ := okWide_slice Tryz.underlying28 (hval 2 28 v2 rfl rfl)
  obtain ⟨x2, rfl, m2, c2⟩ := open_list h2
  clear hA0 hval0
  refine (ShapeMakes_law x0 a0 cap0 m0 c0 x1 x2 a2 cap2 m2 c2 hsh).mono fun e W' ⟨he, bel⟩ => ?_
  subst he
  exact ⟨_, rfl, _, _, _, [], _, [], hW', trodAll_mk1 (shut_bool Tryz.underlying4 _), (trodAll_cons_mk (Below.trod laidOut (by kernel_rfl) (of_decide_eq_true (by kernel_rfl)) h0 bel (trod_low h0)) (trodAll_cons_mk (shut_int Tryz.underlying23 w1) (trodAll_cons_mk (Below.trod laidOut (by kernel_rfl) (of_decide_eq_true (by kernel_rfl)) h2 bel (trod_low h2)) trodAll_mk0))), rfl, bel.frame _, fun h => by cases h⟩
theorem shapeMakes_holds : Rows.ShapeMakesSaid :=
  OpenClaim.holds_of_wide 5 Tryz.f5 rfl rfl rfl rfl rfl rfl rfl ⟨rfl, rfl, rfl, rfl, rfl⟩ rfl rfl rfl rfl rfl (by kernel_rfl) Tryz.func5 (by kernel_rfl)
    (of_decide_eq_true (by kernel_rfl)) (by unfold Func.isWrapper; first | (rw [if_pos (by decide +kernel)]; kernel_rfl) | (rw [if_neg (by decide +kernel)]; exact ⟨rfl, rfl⟩))
    (fun os started H enc _ => liftedShapeMakes os started H enc)
end Go.Proofs.YtbfedeedicnedaaGreat
end
