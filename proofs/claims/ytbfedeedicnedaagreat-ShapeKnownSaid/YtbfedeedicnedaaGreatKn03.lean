/-
  Texts of this claim: RAll5, RAll7, RAll10, RAll11, ShAH, ShBO, ShBQ.
-/
import Derived.Test.YtbfedeedicnedaaGreatKn01
import Derived.Test.YtbfedeedicnedaaGreatKn02
import Derived.Test.YtbfedeedicnedaaGreatWb01
import Derived.Test.YtbfedeedicnedaaGreatWb02
import Derived.Test.YtbfedeedicnedaaGreatWb03
import Derived.Test.YtbfedeedicnedaaGreatWb04
import Derived.Test.YtbfedeedicnedaaGreatWb05
import Derived.Test.YtbfedeedicnedaaGreatWb06
import Derived.Test.YtbfedeedicnedaaGreatWb07
import Derived.Test.YtbfedeedicnedaaGreatWb08
import Derived.Test.YtbfedeedicnedaaGreatWb09
import Derived.Test.YtbfedeedicnedaaGreatWb10
import Derived.Test.YtbfedeedicnedaaGreatWb11
import Derived.Test.YtbfedeedicnedaaGreatWb12
import Derived.Test.YtbfedeedicnedaaGreatWb13
import Derived.Test.YtbfedeedicnedaaGreatWb14
import Derived.Test.YtbfedeedicnedaaGreatWb15
import Derived.Test.YtbfedeedicnedaaGreatWb16
import Derived.Test.YtbfedeedicnedaaGreatWb17
import Derived.Test.YtbfedeedicnedaaGreatWb18
import Derived.Test.YtbfedeedicnedaaGreatWb19
import Derived.Test.YtbfedeedicnedaaGreatWb20
import Derived.Test.YtbfedeedicnedaaGreatWb21
import Derived.Test.YtbfedeedicnedaaGreatWb22
import Derived.Test.YtbfedeedicnedaaGreatWb23
import Derived.Test.YtbfedeedicnedaaGreatWb24
import Derived.Test.YtbfedeedicnedaaGreatWb25
import Derived.Test.YtbfedeedicnedaaGreatWb26
import Derived.Test.YtbfedeedicnedaaGreatWb27
import Derived.Test.YtbfedeedicnedaaGreatWb28
import Derived.Test.YtbfedeedicnedaaGreatWb29
import Derived.Test.YtbfedeedicnedaaGreatWb30
import Derived.Test.YtbfedeedicnedaaGreatWb31
import Derived.Test.YtbfedeedicnedaaGreatWb32
import Derived.Test.YtbfedeedicnedaaGreatWb33
import Derived.Test.YtbfedeedicnedaaGreatWb34
import Derived.Test.YtbfedeedicnedaaGreatWb35
import Derived.Test.YtbfedeedicnedaaGreatWb36
import Derived.Test.YtbfedeedicnedaaGreatWb37
import Derived.Test.YtbfedeedicnedaaGreatWb38
import Derived.Test.YtbfedeedicnedaaGreatWb39
import Derived.Test.YtbfedeedicnedaaGreatWb40
import Derived.Test.YtbfedeedicnedaaGreatWb41
import Derived.Test.YtbfedeedicnedaaGreatWb42
import Derived.Outline
import Derived.Deep.RegionLaw
import Derived.StillTailTactics
import Derived.Deep.RegionHeld3
import Derived.Test.YtbfedeedicnedaaGreatProg
import Derived.WalkKit
import Derived.KernelRfl
import Derived.WalkLawsBesides
import Derived.WalkSpells
import Derived.Deep.QuietTactic
import Derived.BigQuiet
import Derived.Lib.Hide
import Derived.Deep.LoopGhost
import Derived.Below
import Derived.Deep.Draws
import Derived.Deep.AppendLies
import Derived.Maps.AppendAt
import Derived.OwnWalk
import Derived.Laws.BytesArg
import Derived.Laws.MakeOwn
import Derived.Laws.OwnMore
import Derived.Deep.OwnRows
import Derived.Tactics
import Derived.Lib.ConvBytes
import Derived.Laws.Slices
import Derived.RowKit3
import Derived.WideLaws
import Derived.Deep.DeepCutAuto
import Derived.Deep.CutBlock
import Derived.Laws.Rows
import Derived.Lib.AppendStr
import Derived.ArgAppend
import Derived.Laws.IdiomCopy
import Derived.OrdersHeld
import Derived.Laws.BitsLemmas
import Derived.RowKit
import Derived.Laws.StructEq
import Derived.Laws.CopyOwn
import Derived.Sort.OwnSortedInts
import Derived.Shelf.Sort.Plain
import Derived.Shelf.Bits.Mul64
import Derived.Shelf.Slices.Turned
import Derived.Ground.Names2Prog
import Derived.Shelf.Slices.Clone
import Derived.Shelf.Slices.CompactI
import Derived.Shelf.Slices.SearchI
import Derived.Shelf.Slices.Delete
import Derived.Shelf.Slices.Cells
import Derived.Shelf.Slices.In.SortNone
import Derived.Shelf.Slices.Empties
import Derived.Deep.Heap

section
namespace Go.Proofs.YtbfedeedicnedaaGreat.PAll
open Go.RowKit Go.Proofs.YtbfedeedicnedaaGreatW.PrintWords Go.Proofs.YtbfedeedicnedaaGreatW.PrintLast Go.Proofs.YtbfedeedicnedaaGreatW.PrintMore
attribute [local go_sem] max2_int min2_int max_two min_two max_three min_three max_four min_four
set_option linter.unusedVariables false
set_option linter.unusedSimpArgs false
end Go.Proofs.YtbfedeedicnedaaGreat.PAll
end

section
namespace Go.Proofs.YtbfedeedicnedaaGreat.PAll
open Go.RowKit Go.Proofs.YtbfedeedicnedaaGreatW.PrintWords Go.Proofs.YtbfedeedicnedaaGreatW.PrintLast Go.Proofs.YtbfedeedicnedaaGreatW.PrintMore
attribute [local go_sem] max2_int min2_int max_two min_two max_three min_three max_four min_four
set_option linter.unusedVariables false
set_option linter.unusedSimpArgs false
end Go.Proofs.YtbfedeedicnedaaGreat.PAll
end

section
namespace Go.Proofs.YtbfedeedicnedaaGreat.PAll
open Go.RowKit Go.Proofs.YtbfedeedicnedaaGreatW.PrintWords Go.Proofs.YtbfedeedicnedaaGreatW.PrintLast Go.Proofs.YtbfedeedicnedaaGreatW.PrintMore
attribute [local go_sem] max2_int min2_int max_two min_two max_three min_three max_four min_four
set_option linter.unusedVariables false
set_option linter.unusedSimpArgs false
end Go.Proofs.YtbfedeedicnedaaGreat.PAll
end

section
namespace Go.Proofs.YtbfedeedicnedaaGreat.PAll
open Go.RowKit Go.Proofs.YtbfedeedicnedaaGreatW.PrintWords Go.Proofs.YtbfedeedicnedaaGreatW.PrintLast Go.Proofs.YtbfedeedicnedaaGreatW.PrintMore
attribute [local go_sem] max2_int min2_int max_two min_two max_three min_three max_four min_four
set_option linter.unusedVariables false
set_option linter.unusedSimpArgs false
end Go.Proofs.YtbfedeedicnedaaGreat.PAll
end

section
set_option linter.unusedVariables false
set_option linter.unusedSimpArgs false
namespace Go.Proofs.YtbfedeedicnedaaGreat
open Go.RowKit
open Go.Proofs.YtbfedeedicnedaaGreatW.PrintWords
set_option maxRecDepth 100000 in
set_option maxHeartbeats 1000000 in
theorem Make_bad {H : Sh.Hp} {f : Int} {l : List Int} {A A1 : Option Addr} {c c1 : Nat} {w : World} (hL : Kd.C kI w A1 l.length l) (h : H.length ≤ 3000 ∧ l.length ≤ 2000) (hb : ¬ (1 ≤ f ∧ f ≤ 5) ∨ (l.any fun x => !(Sh.el x)) = true) :
    Calls Tryz.prog 29 #[.slice A H.length c, .int .i64 f, .slice A1 l.length c1] w fun e w' => Out3 w.heap.size w' e [] 0 0 0 2 ∧ Below w.heap.size w w' := by
  have hB := Lib.hid (show Below w.heap.size w (w.alloc zero25) from (Below.refl _ _).alloc (Nat.le_refl _) _)
  obtain ⟨h3, h4⟩ := h
  have hkn := Lib.hid (fun W => known_calls f W)
  by_cases hf : 1 ≤ f ∧ f ≤ 5
  · have hkf : (decide (1 ≤ f) && decide (f ≤ 5)) = true := by rw [decide_eq_true hf.1, decide_eq_true hf.2]; rfl
    rw [hkf] at hkn
    have hb2 : (l.any fun x => !(Sh.el x)) = true := by rcases hb with h | h; exact absurd hf h; exact h
    have hcf := Lib.hid (containsF_calls l A1 c1 (w.alloc zero25) (Kd.C_alloc hL _) (by omega))
    rw [hb2] at hcf
    clear hb hb2 hkf hL hf
    go_enter Tryz.func29, Tryz.ntmps29
    go_wp2_with fail
    refine (hkn.out _).mono ?_
    rintro e w1 ⟨rfl, rfl⟩
    go_wp2_with fail
    refine (hcf.out).mono ?_
    rintro e w1 ⟨rfl, rfl⟩
    go_wp2
    refine bodyPost_ret (results_tct rfl _ _ w.heap.size #[.int .i64 0, .int .i64 0, .int .i64 0] rfl (load_shape (heap_alloc_new w _) rfl)) rfl ?_
    exact ⟨⟨_, rfl, Kd.R_nil _ _ _ _ _⟩, hB.out⟩
  · have hkf : (decide (1 ≤ f) && decide (f ≤ 5)) = false := by rw [Bool.and_eq_false_iff, decide_eq_false_iff_not, decide_eq_false_iff_not]; omega
    rw [hkf] at hkn
    clear hb hkf hL hf
    go_enter Tryz.func29, Tryz.ntmps29
    go_wp2_with fail
    refine (hkn.out _).mono ?_
    rintro e w1 ⟨rfl, rfl⟩
    go_wp2
    refine bodyPost_ret (results_tct rfl _ _ w.heap.size #[.int .i64 0, .int .i64 0, .int .i64 0] rfl (load_shape (heap_alloc_new w _) rfl)) rfl ?_
    exact ⟨⟨_, rfl, Kd.R_nil _ _ _ _ _⟩, hB.out⟩
end Go.Proofs.YtbfedeedicnedaaGreat
end

section
set_option linter.unusedVariables false
set_option linter.unusedSimpArgs false
namespace Go.Proofs.YtbfedeedicnedaaGreat
open Go.RowKit
open Go.Proofs.YtbfedeedicnedaaGreatW.PrintWords
theorem finds_tree {H : Sh.Hp} {root x t : Int} {l : List Int} (T : Sh.Tr H root (-1) 1024 l t) : FindsF H 3 root x (Sh.findT H x (t.toNat + 1) root 0).1 (Sh.findT H x (t.toNat + 1) root 0).2 := by
  intro ty k hk A c w hC
  have ht := T.low
  rcases hk with ⟨_, _, h⟩ | ⟨_, _, h⟩ | ⟨rfl, rfl, _⟩ | ⟨_, _, h⟩ | ⟨_, _, h⟩
  · exact absurd h (by omega)
  · exact absurd h (by omega)
  · exact tfind_calls H root x (-1) 1024 t l A c w hC T (by omega)
  · exact absurd h (by omega)
  · exact absurd h (by omega)
end Go.Proofs.YtbfedeedicnedaaGreat
end

section
set_option linter.unusedVariables false
set_option linter.unusedSimpArgs false
namespace Go.Proofs.YtbfedeedicnedaaGreat
open Go.RowKit
open Go.Proofs.YtbfedeedicnedaaGreatW.PrintWords
theorem H0_t2 : Sh.Tr Sh.H0 3 (-1) 1024 [5, 9, 12] 2 :=
  .node (r := 3) (x := 9) (a := 1) (b := 2) (la := [5]) (lb := [12]) (ha := 1) (hb := 1) (by omega) rfl (by omega) (by omega)
    (.node (r := 1) (x := 5) (a := -1) (b := -1) (la := []) (lb := []) (ha := 0) (hb := 0) (by omega) rfl (by omega) (by omega) (.leaf _ _) (.leaf _ _) (by omega) (by omega))
    (.node (r := 2) (x := 12) (a := -1) (b := -1) (la := []) (lb := []) (ha := 0) (hb := 0) (by omega) rfl (by omega) (by omega) (.leaf _ _) (.leaf _ _) (by omega) (by omega)) (by omega) (by omega)
theorem st_A9 (A : Option Addr) (c : Nat) (w : World) (hC : Nodes w A Sh.H0) : Calls Tryz.prog 27 #[.slice A 6 c, shV 1 0 3, .int .i64 9] w fun e w' => e = .returned (.tuple #[.int .i64 1, .int .i64 0]) ∧ Below w.heap.size w w' := by
  have hs : (Sh.sought Sh.H0 1 0 3 9).2 = 0 := by unfold Sh.sought; rw [H0_A]; rfl
  exact steps_ex nd1 hs (by omega) (by omega) (finds_array (H := Sh.H0) (root := 0) (x := 9) (by decide) (by decide)) A c w hC
theorem st_A12 (A : Option Addr) (c : Nat) (w : World) (hC : Nodes w A Sh.H0) : Calls Tryz.prog 27 #[.slice A 6 c, shV 1 0 3, .int .i64 12] w fun e w' => e = .returned (.tuple #[.int .i64 2, .int .i64 0]) ∧ Below w.heap.size w w' := by
  have hs : (Sh.sought Sh.H0 1 0 3 12).2 = 0 := by unfold Sh.sought; rw [H0_A]; rfl
  exact steps_ex nd1 hs (by omega) (by omega) (finds_array (H := Sh.H0) (root := 0) (x := 12) (by decide) (by decide)) A c w hC
theorem st_A1 (A : Option Addr) (c : Nat) (w : World) (hC : Nodes w A Sh.H0) : Calls Tryz.prog 27 #[.slice A 6 c, shV 1 0 3, .int .i64 1] w fun e w' => e = .returned (.tuple #[.int .i64 2, .int .i64 0]) ∧ Below w.heap.size w w' := by
  have hs : (Sh.sought Sh.H0 1 0 3 1).2 = 0 := by unfold Sh.sought; rw [H0_A]; rfl
  exact steps_ex nd1 hs (by omega) (by omega) (finds_array (H := Sh.H0) (root := 0) (x := 1) (by decide) (by decide)) A c w hC
theorem st_T9 (A : Option Addr) (c : Nat) (w : World) (hC : Nodes w A Sh.H0) : Calls Tryz.prog 27 #[.slice A 6 c, shV 3 3 3, .int .i64 9] w fun e w' => e = .returned (.tuple #[.int .i64 1, .int .i64 0]) ∧ Below w.heap.size w w' := by
  have hs : (Sh.sought Sh.H0 3 3 3 9).2 = 0 := by unfold Sh.sought; rw [H0_T]; rfl
  exact steps_ex nd3 hs (by omega) (by omega) (finds_tree (H := Sh.H0) (x := 9) H0_t2) A c w hC
theorem st_T12 (A : Option Addr) (c : Nat) (w : World) (hC : Nodes w A Sh.H0) : Calls Tryz.prog 27 #[.slice A 6 c, shV 3 3 3, .int .i64 12] w fun e w' => e = .returned (.tuple #[.int .i64 2, .int .i64 0]) ∧ Below w.heap.size w w' := by
  have hs : (Sh.sought Sh.H0 3 3 3 12).2 = 0 := by unfold Sh.sought; rw [H0_T]; rfl
  exact steps_ex nd3 hs (by omega) (by omega) (finds_tree (H := Sh.H0) (x := 12) H0_t2) A c w hC
theorem st_T10 (A : Option Addr) (c : Nat) (w : World) (hC : Nodes w A Sh.H0) : Calls Tryz.prog 27 #[.slice A 6 c, shV 3 3 3, .int .i64 10] w fun e w' => e = .returned (.tuple #[.int .i64 2, .int .i64 0]) ∧ Below w.heap.size w w' := by
  have hs : (Sh.sought Sh.H0 3 3 3 10).2 = 0 := by unfold Sh.sought; rw [H0_T]; rfl
  exact steps_ex nd3 hs (by omega) (by omega) (finds_tree (H := Sh.H0) (x := 10) H0_t2) A c w hC
theorem st_S13 (A : Option Addr) (c : Nat) (w : World) (hC : Nodes w A Sh.H0) : Calls Tryz.prog 27 #[.slice A 6 c, shV 5 4 2, .int .i64 13] w fun e w' => e = .returned (.tuple #[.int .i64 2, .int .i64 0]) ∧ Below w.heap.size w w' := by
  have hs : (Sh.sought Sh.H0 5 4 2 13).2 = 0 := by unfold Sh.sought; rw [H0_S]; rfl
  exact steps_ex nd5 hs (by omega) (by omega) (finds_hash (H := Sh.H0) (root := 4) (x := 13) (by decide) (by omega) (by omega) (by decide) (by decide)) A c w hC
theorem st_S9 (A : Option Addr) (c : Nat) (w : World) (hC : Nodes w A Sh.H0) : Calls Tryz.prog 27 #[.slice A 6 c, shV 5 4 2, .int .i64 9] w fun e w' => e = .returned (.tuple #[.int .i64 1, .int .i64 0]) ∧ Below w.heap.size w w' := by
  have hs : (Sh.sought Sh.H0 5 4 2 9).2 = 0 := by unfold Sh.sought; rw [H0_S]; rfl
  exact steps_ex nd5 hs (by omega) (by omega) (finds_hash (H := Sh.H0) (root := 4) (x := 9) (by decide) (by omega) (by omega) (by decide) (by decide)) A c w hC
theorem st_N1 (A : Option Addr) (c : Nat) (w : World) (hC : Nodes w A Sh.H0) : Calls Tryz.prog 27 #[.slice A 6 c, shV 3 (-1) 0, .int .i64 1] w fun e w' => e = .returned (.tuple #[.int .i64 0, .int .i64 0]) ∧ Below w.heap.size w w' := by
  have hs : (Sh.sought Sh.H0 3 (-1) 0 1).2 = 0 := by unfold Sh.sought; rw [H0_N]; rfl
  exact steps_ex nd3 hs (by omega) (by omega) (finds_tree (H := Sh.H0) (x := 1) (Sh.Tr.leaf _ _)) A c w hC
theorem has_S21 (A : Option Addr) (c : Nat) (w : World) (hC : Nodes w A Sh.H0) : Calls Tryz.prog 17 #[.slice A 6 c, shV 5 4 2, .int .i64 21] w fun e w' => e = .returned (.tuple #[.bool false, .int .i64 0]) ∧ Below w.heap.size w w' := by
  have hs : (Sh.sought Sh.H0 5 4 2 21).2 = 0 := by unfold Sh.sought; rw [H0_S]; rfl
  exact Has_of (H := Sh.H0) w hC (fun W hW => search_good Sh.H0 5 4 2 21 false _ A c W hW (H0_lists nd5) hs (by omega) (by omega) (finds_hash (H := Sh.H0) (root := 4) (x := 21) (by decide) (by omega) (by omega) (by decide) (by decide)))
theorem has_T1024 (A : Option Addr) (c : Nat) (w : World) (hC : Nodes w A Sh.H0) : Calls Tryz.prog 17 #[.slice A 6 c, shV 3 3 3, .int .i64 1024] w fun e w' => e = .returned (.tuple #[.bool false, .int .i64 2]) ∧ Below w.heap.size w w' := by
  have hs : (Sh.sought Sh.H0 3 3 3 1024).2 = 2 := by unfold Sh.sought; rw [H0_T]; rfl
  refine Has_of (H := Sh.H0) (n := 0) w hC (fun W hW => ?_)
  have := search_bad Sh.H0 3 3 3 1024 A c W hW (H0_lists nd3) (by rw [hs]; omega)
  rw [hs] at this
  exact this
theorem nodes_AT (A : Option Addr) (c : Nat) (w : World) (hC : Nodes w A Sh.H0) : Calls Tryz.prog 18 #[.slice A 6 c, shV 1 0 3, shV 3 3 3] w fun e w' => e = .returned (.tuple #[.int .i64 1, .int .i64 0, .int .i64 0]) ∧ Below w.heap.size w w' :=
  nodes_ex (ma := [true, false, false, false, false, false]) (mb := [false, true, true, true, false, false]) nd1 nd3 (by rw [H0_A]) (by rw [H0_T]) (by decide) (by decide) A c w hC
theorem nodes_T1 (A : Option Addr) (c : Nat) (w : World) (hC : Nodes w A Sh.H0) : Calls Tryz.prog 18 #[.slice A 6 c, shV 3 3 3, shV 3 1 1] w fun e w' => e = .returned (.tuple #[.int .i64 3, .int .i64 1, .int .i64 0]) ∧ Below w.heap.size w w' :=
  nodes_ex (ma := [false, true, true, true, false, false]) (mb := [false, true, false, false, false, false]) nd3 nd3 (by rw [H0_T]) (by decide) (by decide) (by decide) A c w hC
theorem list_S (A : Option Addr) (c : Nat) (w : World) (hC : Nodes w A Sh.H0) : Calls Tryz.prog 16 #[.slice A 6 c, shV 5 4 2] w fun e w' => (∃ A c, e = .returned (.tuple #[.slice A 2 c, .int .i64 0]) ∧ 2 ≤ c ∧ Kd.C kI w' A 2 [5, 13]) ∧ Below w.heap.size w w' := list_ex nd5 H0_S A c w hC
theorem list_N (A : Option Addr) (c : Nat) (w : World) (hC : Nodes w A Sh.H0) : Calls Tryz.prog 16 #[.slice A 6 c, shV 3 (-1) 0] w fun e w' => (∃ A c, e = .returned (.tuple #[.slice A 0 c, .int .i64 0]) ∧ 0 ≤ c ∧ Kd.C kI w' A 0 []) ∧ Below w.heap.size w w' := list_ex nd3 H0_N A c w hC
def ErrV (k : Int) (e : Ending) : Prop := ∃ A q c f r n, e = .returned (.tuple #[.slice A q c, shV f r n, .int .i64 k])
theorem Out3.err {base : Nat} {w' : World} {e : Ending} {K : Sh.Hp} {f r n k : Int} (h : Out3 base w' e K f r n k) : ErrV k e := by
  obtain ⟨v, rfl, hR⟩ := h
  obtain ⟨A, c, rfl⟩ := Kd.R_slice hR
  exact ⟨_, _, _, _, _, _, rfl⟩
theorem make_b1 (A : Option Addr) (c : Nat) (w : World) (hC : Nodes w A Sh.H0) : Calls Tryz.prog 29 #[.slice A 6 c, .int .i64 6, .slice none 0 0] w fun e w' => ErrV 2 e ∧ Below w.heap.size w w' :=
  (Make_bad (H := Sh.H0) (l := []) (Kd.C_nil _ _) (by decide) (by omega)).mono fun e w' h => ⟨h.1.err, h.2⟩
theorem make_b2 (A1 : Option Addr) (c1 : Nat) (A : Option Addr) (c : Nat) (w : World) (hC : Nodes w A Sh.H0) (hK : Kd.C kI w A1 1 [1024]) : Calls Tryz.prog 29 #[.slice A 6 c, .int .i64 3, .slice A1 1 c1] w fun e w' => ErrV 2 e ∧ Below w.heap.size w w' :=
  (Make_bad (H := Sh.H0) (l := [1024]) hK (by decide) (by decide)).mono fun e w' h => ⟨h.1.err, h.2⟩
theorem put_b (A : Option Addr) (c : Nat) (w : World) (hC : Nodes w A Sh.H0) : Calls Tryz.prog 36 #[.slice A 6 c, shV 1 0 3, .int .i64 (-1)] w fun e w' => ErrV 2 e ∧ Below w.heap.size w w' := by
  have hs : Sh.sought Sh.H0 1 0 3 (-1) = ([], 2) := by unfold Sh.sought; rw [H0_A]; rfl
  exact (Put_of hC (fun W hW => changed_bad hW (H0_lists nd1) hs (by omega) true)).mono fun e w' h => ⟨h.1.err, h.2⟩
theorem drop_same (A : Option Addr) (c : Nat) (w : World) (hC : Nodes w A Sh.H0) : Calls Tryz.prog 37 #[.slice A 6 c, shV 1 0 3, .int .i64 7] w fun e w' => MadeOk Sh.H0 1 [5, 9, 12] 1 w' e ∧ Below w.heap.size w w' := by
  have hs : Sh.sought Sh.H0 1 0 3 7 = ([5, 9, 12], 0) := by unfold Sh.sought; rw [H0_A]; rfl
  refine (Drop_of hC (fun W hW => changed_same hW (H0_lists nd1) nd1 hs false (by decide) (by decide) (by decide) Sh.H0_small)).mono ?_
  rintro e w' ⟨h, hB⟩
  exact ⟨h.made (by decide) ⟨⟨[], (List.append_nil _).symm, by decide⟩, by decide⟩, hB⟩
theorem split_10 (A : Option Addr) (c : Nat) (w : World) (hC : Nodes w A Sh.H0) : Calls Tryz.prog 44 #[.slice A 6 c, shV 3 3 3, .int .i64 10] w fun e w' => (∃ A q c r1 r2, e = .returned (.tuple #[.slice A q c, shV 3 r1 2, shV 3 r2 1, .bool false, .int .i64 0]) ∧ MadeAt w' A q c 3 r1 2 [5, 9] 80 ∧ MadeAt w' A q c 3 r2 1 [12] 80) ∧ Below w.heap.size w w' :=
  (split_ex 10 (by decide) A c w hC).mono fun e w' h => ⟨SplitOk.v h.1 rfl rfl, h.2⟩
theorem split_b (A : Option Addr) (c : Nat) (w : World) (hC : Nodes w A Sh.H0) : Calls Tryz.prog 44 #[.slice A 6 c, shV 1 0 3, .int .i64 9] w fun e w' => (∃ A q c f r1 n1 r2 n2 b, e = .returned (.tuple #[.slice A q c, shV f r1 n1, shV f r2 n2, .bool b, .int .i64 7])) ∧ Below w.heap.size w w' := by
  have hs : Sh.sought Sh.H0 1 0 3 9 = ([5, 9, 12], 0) := by unfold Sh.sought; rw [H0_A]; rfl
  refine (Split_bad2 hC (H0_lists nd1) hs (by omega)).mono ?_
  rintro e w' ⟨⟨v, rfl, hR⟩, hB⟩
  obtain ⟨A, c, rfl⟩ := Kd.R_slice hR
  exact ⟨⟨_, _, _, _, _, _, _, _, _, rfl⟩, hB⟩
theorem join_b1 (A : Option Addr) (c : Nat) (w : World) (hC : Nodes w A Sh.H0) : Calls Tryz.prog 47 #[.slice A 6 c, shV 3 3 3, .int .i64 12, shV 3 (-1) 0] w fun e w' => ErrV 7 e ∧ Below w.heap.size w w' := by
  have hs : Sh.sought Sh.H0 3 (-1) 0 12 = ([], 0) := by unfold Sh.sought; rw [H0_N]; rfl
  exact (Join_bad4 hC (H0_lists nd3) H0_T hs H0_t2 (Sh.Tr.leaf _ _) (by decide) (by decide) (fun h => absurd (h.1 12 (by decide)) (by omega))).mono fun e w' h => ⟨h.1.err, h.2⟩
theorem join_b2 (A : Option Addr) (c : Nat) (w : World) (hC : Nodes w A Sh.H0) : Calls Tryz.prog 47 #[.slice A 6 c, shV 1 0 3, .int .i64 20, shV 3 3 3] w fun e w' => ErrV 7 e ∧ Below w.heap.size w w' := by
  have hs : Sh.sought Sh.H0 3 3 3 20 = ([5, 9, 12], 0) := by unfold Sh.sought; rw [H0_T]; rfl
  exact (Join_bad3 hC (H0_lists nd1) (H0_lists nd3) H0_A hs (by omega)).mono fun e w' h => ⟨h.1.err, h.2⟩
theorem turn_b (A : Option Addr) (c : Nat) (w : World) (hC : Nodes w A Sh.H0) : Calls Tryz.prog 34 #[.slice A 6 c, shV 1 0 3, .int .i64 0] w fun e w' => ErrV 2 e ∧ Below w.heap.size w w' :=
  (Turn_err hC (H0_lists nd1) H0_A (by omega)).mono fun e w' h => ⟨h.1.err, h.2⟩
theorem list_litd (v : Value) (W : World) (l : List Int) (cs : Array Value) (hcs : cs = (nums .i64 l).toArray) (hm : l.length ≤ 1000000) : Calls Tryz.prog 40 #[v] (W.alloc (.cells cs 3)).drew fun e w' => e = .returned v ∧ Kd.C kI w' (some ⟨W.heap.size, 0, none⟩) l.length l ∧ Below W.heap.size W w' :=
  (list_calls _ _).mono fun e w' h => ⟨h.1, by rw [h.2]; exact Kd.C_below (lit_C W l cs hcs hm) (Below.refl _ _).drew, by rw [h.2]; exact ((Below.refl _ _).alloc (Nat.le_refl _) _).drew⟩
end Go.Proofs.YtbfedeedicnedaaGreat
end
