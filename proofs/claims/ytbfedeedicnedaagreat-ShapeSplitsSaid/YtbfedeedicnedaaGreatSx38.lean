/-
  Texts of this claim: ShWT, ShWT2, ShSp, ShRg.
-/
import Derived.Test.YtbfedeedicnedaaGreatSx34
import Derived.Test.YtbfedeedicnedaaGreatSx37
set_option linter.unusedVariables false
set_option linter.unusedSimpArgs false
section
namespace Go.Proofs.YtbfedeedicnedaaGreat
open Go.RowKit
open Go.Proofs.YtbfedeedicnedaaGreatW.PrintWords
theorem GotX.weak {ex : Prop} {base : Nat} {w' : World} {e : Ending} {r : Option (List Int)} (h : GotX False base w' e r) (hx : ¬ ex) : GotX ex base w' e r := by
  obtain ⟨v, l, he, hv, hl, _⟩ := h
  exact ⟨v, l, he, hv, hl, fun h => absurd h hx⟩
namespace WT
def Nodes (w : World) (A : Option Addr) (H : Sh.Hp) : Prop := Go.Proofs.YtbfedeedicnedaaGreat.Nodes w A H ∧ TabOk w
theorem Nodes.alloc {w : World} {A : Option Addr} {H : Sh.Hp} (h : Nodes w A H) (o : Obj) : Nodes (w.alloc o) A H :=
  ⟨Kd.C_alloc h.1 o, h.2.below ((Below.refl w.heap.size w).alloc (Nat.le_refl _) o) h.2.pos⟩
theorem Nodes.below {w w' : World} {A : Option Addr} {H : Sh.Hp} (h : Nodes w A H) (hb : Below w.heap.size w w') : Nodes w' A H :=
  ⟨Kd.C_below h.1 hb, h.2.below hb h.2.pos⟩
def ListsF (H : Sh.Hp) (f : Int) : Prop := H.length ≤ 3000 → ∀ (ty k : Nat), (ty = 154 ∧ k = 163 ∧ f = 1) ∨ (ty = 155 ∧ k = 168 ∧ f = 2) ∨ (ty = 119 ∧ k = 155 ∧ f = 3) ∨ (ty = 156 ∧ k = 181 ∧ f = 4) ∨ (ty = 157 ∧ k = 191 ∧ f = 5) → ∀ (root : Int) (A : Option Addr) (c : Nat) (w : World), Nodes w A H →
  Calls Tryz.prog k #[.agg #[], .slice A H.length c, .int .i64 root] w fun e w' => GotX (¬ Digital f) w.heap.size w' e (Sh.list f H root) ∧ Below w.heap.size w w'
set_option maxRecDepth 100000 in
set_option maxHeartbeats 1000000 in
theorem listed_calls (H : Sh.Hp) (f root count : Int) (A : Option Addr) (c : Nat) (w : World) (hC : Nodes w A H) (hL : ListsF H f) :
    Calls Tryz.prog 60 #[.slice A H.length c, .agg #[.int .i64 f, .int .i64 root, .int .i64 count]] w fun e w' => LGot (¬ Digital f) w.heap.size w' e (Sh.listed H f root count) ∧ Below w.heap.size w w' := by
  have hB0 := Lib.hid (show Below w.heap.size w (w.alloc (.cells #[.int .i64 f, .int .i64 root, .int .i64 count] 25)) from (Below.refl _ _).alloc (Nat.le_refl _) _)
  obtain ⟨R, hR⟩ : ∃ R, R = Sh.listed H f root count := ⟨_, rfl⟩
  rw [← hR]
  unfold Sh.listed at hR
  by_cases h1 : 3000 < H.length
  · rw [if_pos h1] at hR
    subst hR
    go_enter Tryz.func60, Tryz.ntmps60
    go_wp2
    go_ret2
    exact ⟨⟨_, [], rfl, Kd.R_nil _ _ _ _ _, rfl, fun _ => rfl⟩, hB0.out⟩
  rw [if_neg h1] at hR
  have hkn := Lib.hid (fun W => known_calls f W)
  by_cases hf : 1 ≤ f ∧ f ≤ 5
  case neg =>
    have hkf : (decide (1 ≤ f) && decide (f ≤ 5)) = false := by rw [Bool.and_eq_false_iff, decide_eq_false_iff_not, decide_eq_false_iff_not]; omega
    rw [hkf] at hkn
    have hln : Sh.list f H root = none := by
      unfold Sh.list
      rw [if_neg (by omega), if_neg (by omega), if_neg (by omega), if_neg (by omega), if_neg (by omega)]
    rw [hln] at hR
    have hR' : R = ([], 2) := hR
    clear hR
    subst hR'
    clear hkf hln hL
    go_enter Tryz.func60, Tryz.ntmps60
    go_wp2_with fail
    refine (hkn.out _).mono ?_
    rintro e w1 ⟨rfl, rfl⟩
    go_wp2
    go_ret2
    exact ⟨⟨_, [], rfl, Kd.R_nil _ _ _ _ _, rfl, fun _ => rfl⟩, hB0.out⟩
  case pos =>
    obtain ⟨h2, h3⟩ := hf
    have hkf : (decide (1 ≤ f) && decide (f ≤ 5)) = true := by rw [decide_eq_true h2, decide_eq_true h3]; rfl
    rw [hkf] at hkn
    have hof := Lib.hid (fun W => of_calls f W h2 h3)
    obtain ⟨ty, k, hfv, hk, hm⟩ : ∃ (ty k : Nat), formV f = .iface ty (.agg #[]) ∧ ((ty = 154 ∧ k = 163 ∧ f = 1) ∨ (ty = 155 ∧ k = 168 ∧ f = 2) ∨ (ty = 119 ∧ k = 155 ∧ f = 3) ∨ (ty = 156 ∧ k = 181 ∧ f = 4) ∨ (ty = 157 ∧ k = 191 ∧ f = 5)) ∧ (∀ W : World, (method 312 ty (.agg #[]) "sward/shape.list").run Tryz.prog W = .ok (k, .agg #[]) W) := by
      rcases five h2 h3 with rfl | rfl | rfl | rfl | rfl
      · exact ⟨154, 163, rfl, by omega, fun _ => by kernel_rfl⟩
      · exact ⟨155, 168, rfl, by omega, fun _ => by kernel_rfl⟩
      · exact ⟨119, 155, rfl, by omega, fun _ => by kernel_rfl⟩
      · exact ⟨156, 181, rfl, by omega, fun _ => by kernel_rfl⟩
      · exact ⟨157, 191, rfl, by omega, fun _ => by kernel_rfl⟩
    have hls := Lib.hid (hL (by omega) ty k hk root)
    rw [hfv] at hof
    obtain ⟨r, hr⟩ : ∃ r, r = Sh.list f H root := ⟨_, rfl⟩
    rw [← hr] at hls hR
    obtain ⟨w2, hw2⟩ : ∃ w2, w2 = w.alloc (.cells #[.int .i64 f, .int .i64 root, .int .i64 count] 25) := ⟨_, rfl⟩
    have hsz := Lib.hid (show w.heap.size + 1 ≤ w2.heap.size by rw [hw2, World.size_alloc]; omega)
    have hc0 : ∀ W, Below (w.heap.size + 1) w2 W → W.cell? ⟨w.heap.size, 0, none⟩ = some (.int .i64 f) ∧ W.cell? ⟨w.heap.size, 1, none⟩ = some (.int .i64 root) ∧ W.cell? ⟨w.heap.size, 2, none⟩ = some (.int .i64 count) := fun W hW => by
      refine ⟨?_, ?_, ?_⟩
      all_goals
        rw [hW.cell (p := ⟨w.heap.size, _, none⟩) (by show w.heap.size < _; omega), hw2]
        simp
    have hc3 := Lib.hid (fun W hW => (hc0 W hW).2.2)
    have hcc := Lib.hid (fun W hW => (⟨hW, (hc0 W hW).1, (hc0 W hW).2.1⟩ : _ ∧ _ ∧ _))
    have hC2 : Nodes w2 A H := by rw [hw2]; exact Nodes.alloc hC _
    have hNod := Lib.hid (fun W (hW : Below (w.heap.size + 1) w2 W) => (Nodes.below hC2 (hW.mono (by rw [hw2, World.size_alloc]; omega)) : Nodes W A H))
    have hBd := Lib.hid (show Below (w.heap.size + 1) w2 w2.drew from (Below.refl _ _).drew)
    have hB2 := Lib.hid (show Below w.heap.size w w2 by rw [hw2]; exact hB0.out)
    have hexd := Lib.hid (fun (h : ¬ Digital f) => h)
    obtain ⟨D, hD⟩ : ∃ D, D = ¬ Digital f := ⟨_, rfl⟩
    rw [← hD] at hls ⊢
    replace hR := Lib.hid hR
    clear hC2 hc0 hC hL hfv hkf hr hD hexd hB0
    rcases hk with ⟨rfl, rfl, -⟩ | ⟨rfl, rfl, -⟩ | ⟨rfl, rfl, -⟩ | ⟨rfl, rfl, -⟩ | ⟨rfl, rfl, -⟩
    all_goals
      go_enter Tryz.func60, Tryz.ntmps60
      go_wp2_with fail
      refine (hkn.out _).mono ?_
      rintro e w1 ⟨rfl, rfl⟩
      go_wp2
      rw [← hw2]
      clear hw2
      go_region_held3 (fun W' => Below (w.heap.size + 1) w2 W' ∧ W'.cell? ⟨w.heap.size, 0, none⟩ = some (.int .i64 f) ∧ W'.cell? ⟨w.heap.size, 1, none⟩ = some (.int .i64 root))
        (first
          | exact hcc.out _ (by assumption)
          | exact hcc.out _ hBd.out
          | fail)
        (first
          | (go_at_call 99; refine (hof.out _).mono ?_; rintro e w3 ⟨rfl, hb1⟩; have hB3 : Below (w.heap.size + 1) w2 w3 := Below.trans hBd.out (hb1.mono hsz.out); replace hb1 := Lib.hid hb1)
          | (refine (hls.out _ _ _ ?hl).mono ?_; (case hl => exact hNod.out _ (by assumption)); rintro e w4 ⟨⟨v1, l1, rfl, ho1, ho2, ho3⟩, hb2⟩; have hB4 : Below (w.heap.size + 1) w2 w4 := Below.trans (by assumption) (hb2.mono (Nat.le_trans hsz.out (Below.size (by assumption)))); replace ho1 := Lib.hid ho1; replace ho2 := Lib.hid ho2; replace ho3 := Lib.hid ho3; replace hb2 := Lib.hid hb2))
      replace hB4 := Lib.hid (show Below (w.heap.size + 1) w2 w4 from by assumption)
      have hct := hc3.out _ hB4.out
      have hBf := Lib.hid (Below.trans hB2.out (hB4.out.mono (by omega)))
      have hof3 := Lib.hid (Kd.R_lower ho1.out (show w.heap.size ≤ w3.heap.size from Nat.le_trans (by have := hsz.out; omega) (Below.size (show Below (w.heap.size + 1) w2 w3 from by assumption))))
      rcases r with _ | l
      · obtain rfl : R = ([], 2) := hR.out
        go_wp2
        go_ret2
        exact ⟨⟨_, [], rfl, Kd.R_nil _ _ _ _ _, rfl, fun _ => rfl⟩, hBf.out⟩
      · have hlen : l1.length = l.length := ho2.out
        obtain ⟨A5, c5, rfl⟩ := Kd.R_slice hof3.out
        have hRl : R = if (l.length : Int) = count then (l, 0) else ([], 2) := hR.out
        rw [← hlen] at hRl
        obtain ⟨n, hn⟩ : ∃ n, n = l1.length := ⟨_, rfl⟩
        rw [← hn] at hRl hof3 ⊢
        replace hn := Lib.hid hn
        replace hlen := Lib.hid hlen
        by_cases hcn : (n : Int) = count
        · rw [if_pos hcn] at hRl
          subst hRl
          have hcb : ((n : Int) != count) = false := bne_eq_false_iff_eq.mpr hcn
          clear hcn
          go_wp2
          go_ret2
          exact ⟨⟨_, l1, rfl, hof3.out, hlen.out, fun h => ho3.out h⟩, hBf.out⟩
        · rw [if_neg hcn] at hRl
          subst hRl
          have hcb : ((n : Int) != count) = true := bne_iff_ne.mpr hcn
          clear hcn
          go_wp2
          go_ret2
          exact ⟨⟨_, [], rfl, Kd.R_nil _ _ _ _ _, rfl, fun _ => rfl⟩, hBf.out⟩
theorem listed_in (H : Sh.Hp) (f root count : Int) (A : Option Addr) (c : Nat) (w : World) (o : Obj) (hC : Nodes w A H) (hL : ListsF H f) :
    Calls Tryz.prog 60 #[.slice A H.length c, shV f root count] (w.alloc o) fun e w' => LGot (¬ Digital f) w.heap.size w' e (Sh.listed H f root count) ∧ Below w.heap.size w w' := by
  refine (listed_calls H f root count A c (w.alloc o) (Nodes.alloc hC _) hL).mono ?_
  rintro e w' ⟨h, hb⟩
  rw [World.size_alloc] at h hb
  exact ⟨h.lower (by omega), Below.trans ((Below.refl _ _).alloc (Nat.le_refl _) o) (hb.mono (by omega))⟩
set_option maxRecDepth 100000 in
set_option maxHeartbeats 1000000 in
theorem List_calls (H : Sh.Hp) (f root count : Int) (A : Option Addr) (c : Nat) (w : World) (hC : Nodes w A H) (hL : ListsF H f) :
    Calls Tryz.prog 16 #[.slice A H.length c, shV f root count] w fun e w' => LGot (¬ Digital f) w.heap.size w' e (Sh.listed H f root count) ∧ Below w.heap.size w w' := by
  have hcl := Lib.hid (listed_in H f root count A c w (.cells #[.int .i64 f, .int .i64 root, .int .i64 count] 25) hC hL)
  generalize Sh.listed H f root count = R at *
  clear hC hL
  go_enter Tryz.func16, Tryz.ntmps16
  go_wp2_with fail
  refine (hcl.out).mono ?_
  rintro e w1 ⟨⟨v, l, rfl, ho, h1, h2⟩, hb⟩
  replace ho := Lib.hid ho
  replace hb := Lib.hid hb
  go_wp2
  go_ret2
  exact ⟨⟨v, l, rfl, ho.out, h1, h2⟩, hb.out⟩
set_option maxRecDepth 100000 in
set_option maxHeartbeats 1000000 in
theorem Check_calls (H : Sh.Hp) (f root count : Int) (A : Option Addr) (c : Nat) (w : World) (hC : Nodes w A H) (hL : ListsF H f) :
    Calls Tryz.prog 22 #[.slice A H.length c, shV f root count] w fun e w' => e = .returned (.int .i64 (Sh.listed H f root count).2) ∧ Below w.heap.size w w' := by
  have hcl := Lib.hid (listed_in H f root count A c w (.cells #[.int .i64 f, .int .i64 root, .int .i64 count] 25) hC hL)
  generalize Sh.listed H f root count = R at *
  clear hC hL
  go_enter Tryz.func22, Tryz.ntmps22
  go_wp2_with fail
  refine (hcl.out).mono ?_
  rintro e w1 ⟨⟨v, l, rfl, ho, h1, h2⟩, hb⟩
  replace ho := Lib.hid ho
  replace hb := Lib.hid hb
  go_wp2
  go_ret
  exact ⟨rfl, hb.out⟩
set_option maxRecDepth 100000 in
set_option maxHeartbeats 1000000 in
theorem sought_calls (H : Sh.Hp) (f root count x : Int) (A : Option Addr) (c : Nat) (w : World) (hC : Nodes w A H) (hL : ListsF H f) :
    Calls Tryz.prog 86 #[.slice A H.length c, shV f root count, .int .i64 x] w fun e w' => LGot (¬ Digital f) w.heap.size w' e (Sh.sought H f root count x) ∧ Below w.heap.size w w' := by
  have hcl := Lib.hid (listed_in H f root count A c w (.cells #[.int .i64 f, .int .i64 root, .int .i64 count] 25) hC hL)
  obtain ⟨S, hS⟩ : ∃ S, S = Sh.sought H f root count x := ⟨_, rfl⟩
  rw [← hS]
  unfold Sh.sought at hS
  generalize Sh.listed H f root count = R at *
  obtain ⟨R1, R2⟩ := R
  clear hC hL
  have hel := Lib.hid (fun W => element_at (w := W) x (b := Sh.el x) rfl)
  by_cases h0 : R2 = 0
  · subst h0
    cases he : Sh.el x
    · rw [if_pos ⟨rfl, he⟩] at hS
      subst hS
      rw [he] at hel
      go_enter Tryz.func86, Tryz.ntmps86
      go_wp2_with fail
      refine (hcl.out).mono ?_
      rintro e w1 ⟨⟨v, l, rfl, ho, h1, h2⟩, hb⟩
      replace hb := Lib.hid hb
      clear ho h1 h2
      go_wp2_with fail
      refine (hel.out _).mono ?_
      rintro e w2 ⟨rfl, rfl⟩
      go_wp2
      go_ret2
      exact ⟨⟨_, [], rfl, Kd.R_nil _ _ _ _ _, rfl, fun _ => rfl⟩, hb.out⟩
    · rw [if_neg (fun h => by rw [he] at h; exact absurd h.2 (by decide))] at hS
      subst hS
      rw [he] at hel
      go_enter Tryz.func86, Tryz.ntmps86
      go_wp2_with fail
      refine (hcl.out).mono ?_
      rintro e w1 ⟨⟨v, l, rfl, ho, h1, h2⟩, hb⟩
      replace ho := Lib.hid ho
      replace hb := Lib.hid hb
      replace h1 := Lib.hid h1
      go_wp2_with fail
      refine (hel.out _).mono ?_
      rintro e w2 ⟨rfl, rfl⟩
      go_wp2
      go_ret2
      exact ⟨⟨_, l, rfl, ho.out, h1.out, h2⟩, hb.out⟩
  · rw [if_neg (fun h => h0 h.1)] at hS
    subst hS
    have h0b : (R2 == 0) = false := beq_eq_false_iff_ne.mpr h0
    clear h0
    go_enter Tryz.func86, Tryz.ntmps86
    go_wp2_with fail
    refine (hcl.out).mono ?_
    rintro e w1 ⟨⟨v, l, rfl, ho, h1, h2⟩, hb⟩
    replace ho := Lib.hid ho
    replace hb := Lib.hid hb
    replace h1 := Lib.hid h1
    go_wp2
    go_ret2
    exact ⟨⟨_, l, rfl, ho.out, h1.out, h2⟩, hb.out⟩
theorem listsF_all {H : Sh.Hp} (f : Int) (hsm : H.length ≤ 3000 → ∀ p ∈ H, p.1.length ≤ 1000000 ∧ p.2.length ≤ 1000000) : ListsF H f := by
  intro h30 ty k hk root A c w hC
  have hbig := hsm h30
  have hb1 : ∀ p ∈ H, p.1.length ≤ 1000000 := fun p hp => (hbig p hp).1
  have nd : ∀ f : Int, Digital f → ¬ ¬ Digital f := fun f h h2 => h2 h
  rcases hk with ⟨rfl, rfl, rfl⟩ | ⟨rfl, rfl, rfl⟩ | ⟨rfl, rfl, rfl⟩ | ⟨rfl, rfl, rfl⟩ | ⟨rfl, rfl, rfl⟩
  · exact (alist_calls H root A c w hC.1 hb1).mono fun e w' h => ⟨h.1.x _, h.2⟩
  · exact (plist_calls H root A c w hC.1 hC.2 hbig).mono fun e w' h => ⟨h.1.weak (nd 2 (.inl rfl)), h.2⟩
  · exact (tlist_calls H root A c w hC.1).mono fun e w' h => ⟨h.1.x _, h.2⟩
  · exact (trlist_calls H root A c w hC.1 hC.2 hbig).mono fun e w' h => ⟨h.1.weak (nd 4 (.inr rfl)), h.2⟩
  · exact (hlist_calls H root A c w hC.1 hb1).mono fun e w' h => ⟨h.1.x _, h.2⟩
end WT
end Go.Proofs.YtbfedeedicnedaaGreat
end
section
namespace Go.Proofs.YtbfedeedicnedaaGreat
open Go.RowKit
open Go.Proofs.YtbfedeedicnedaaGreatW.PrintWords
namespace WT
set_option maxRecDepth 100000 in
set_option maxHeartbeats 300000 in
theorem Split_bad1 {H : Sh.Hp} {f root n x : Int} {A : Option Addr} {c : Nat} {w : World} {l : List Int} (hC : Nodes w A H) (hLa : ListsF H f) {ea : Int} (ha : Sh.sought H f root n x = (l, ea)) (he : ea ≠ 0) :
    Calls Tryz.prog 44 #[.slice A H.length c, shV f root n, .int .i64 x] w fun e w' => Out5 w.heap.size w' e [] 0 0 0 0 0 false ea ∧ Below w.heap.size w w' := by
  obtain ⟨W0, hW0⟩ : ∃ W0, W0 = ((w.alloc (.cells #[.int .i64 f, .int .i64 root, .int .i64 n] 25)).alloc zero25).alloc zero25 := ⟨_, rfl⟩
  have hsz := Lib.hid (show W0.heap.size = w.heap.size + 3 by rw [hW0, World.size_alloc, World.size_alloc, World.size_alloc])
  have b1 := Lib.hid (show W0.heap[w.heap.size]? = some (.cells #[.int .i64 f, .int .i64 root, .int .i64 n] 25 (0, 0)) by
    rw [hW0]
    exact blk_alloc (blk_alloc (heap_alloc_new w _) _) _)
  have b2 := Lib.hid (show W0.heap[w.heap.size + 1]? = some (.cells #[.int .i64 0, .int .i64 0, .int .i64 0] 25 (0, 0)) by
    have := blk_alloc (heap_alloc_new (w.alloc (.cells #[.int .i64 f, .int .i64 root, .int .i64 n] 25)) zero25) zero25
    rw [World.size_alloc] at this
    rw [hW0]
    exact this)
  have b3 := Lib.hid (show W0.heap[w.heap.size + 2]? = some (.cells #[.int .i64 0, .int .i64 0, .int .i64 0] 25 (0, 0)) by
    have := heap_alloc_new ((w.alloc (.cells #[.int .i64 f, .int .i64 root, .int .i64 n] 25)).alloc zero25) zero25
    rw [World.size_alloc, World.size_alloc] at this
    rw [hW0]
    exact this)
  have hB0 := Lib.hid (show Below w.heap.size w W0 by
    rw [hW0]
    exact (((Below.refl _ _).alloc (Nat.le_refl _) _).alloc (by rw [World.size_alloc]; omega) _).alloc (by rw [World.size_alloc, World.size_alloc]; omega) _)
  have hBw := Lib.hid (fun W (hW : Below W0.heap.size W0 W) => (hB0.out.trans (hW.mono (by have := hsz.out; omega)) : Below w.heap.size w W))
  have hla := Lib.hid (fun W (hW : Below W0.heap.size W0 W) => by have := sought_calls H f root n x A c W (Nodes.below hC (hBw.out W hW)) hLa; rw [ha] at this; exact this)
  have heb : (ea != 0) = true := bne_iff_ne.mpr he
  have hec : (ea == 0) = false := beq_eq_false_iff_ne.mpr he
  clear hC hLa ha he
  go_enter Tryz.func44, Tryz.ntmps44
  go_wp2_with fail
  rw [← hW0]
  clear hW0
  refine (hla.out _ (Below.refl _ _)).mono ?_
  rintro e w1 ⟨⟨v1, l1, rfl, o1, hx0, hx1⟩, hb1⟩
  have hBf := Lib.hid (hBw.out _ hb1)
  have hr7 := blk_below b2.out hb1
  have hr8 := blk_below b3.out hb1
  have hr0 := blk_below b1.out hb1
  have hf7 := blk_frozen hr7
  have hf8 := blk_frozen hr8
  have c00 : w1.cell? ⟨w.heap.size, 0, none⟩ = some (.int .i64 f) := by rw [blk_cell hr0]; rfl
  have c01 : w1.cell? ⟨w.heap.size, 1, none⟩ = some (.int .i64 root) := by rw [blk_cell hr0]; rfl
  have c70 : w1.cell? ⟨w.heap.size + 1, 0, none⟩ = some (.int .i64 0) := by rw [blk_cell hr7]; rfl
  have c71 : w1.cell? ⟨w.heap.size + 1, 1, none⟩ = some (.int .i64 0) := by rw [blk_cell hr7]; rfl
  have c72 : w1.cell? ⟨w.heap.size + 1, 2, none⟩ = some (.int .i64 0) := by rw [blk_cell hr7]; rfl
  have c80 : w1.cell? ⟨w.heap.size + 2, 0, none⟩ = some (.int .i64 0) := by rw [blk_cell hr8]; rfl
  have c81 : w1.cell? ⟨w.heap.size + 2, 1, none⟩ = some (.int .i64 0) := by rw [blk_cell hr8]; rfl
  have c82 : w1.cell? ⟨w.heap.size + 2, 2, none⟩ = some (.int .i64 0) := by rw [blk_cell hr8]; rfl
  replace hr7 := Lib.hid hr7
  replace hr8 := Lib.hid hr8
  replace hr0 := Lib.hid hr0
  clear hb1 o1 hx1 hx0
  go_wp2
  refine bodyPost_ret (results_tcctt rfl _ _ (w.heap.size + 1) (w.heap.size + 2) #[.int .i64 0, .int .i64 0, .int .i64 0] #[.int .i64 0, .int .i64 0, .int .i64 0] rfl rfl (load_two (by omega) hr7.out hr8.out).1 (load_two (by omega) hr7.out hr8.out).2) rfl ?_
  exact ⟨⟨_, rfl, Kd.R_nil _ _ _ _ _⟩, below_set2 2 (below_set2 1 hBf.out _ _ _) _ _ _⟩
set_option maxRecDepth 100000 in
set_option maxHeartbeats 300000 in
theorem Split_bad2 {H : Sh.Hp} {f root n x : Int} {A : Option Addr} {c : Nat} {w : World} {l : List Int} (hC : Nodes w A H) (hLa : ListsF H f) (ha : Sh.sought H f root n x = (l, 0)) (he : f ≠ 3) :
    Calls Tryz.prog 44 #[.slice A H.length c, shV f root n, .int .i64 x] w fun e w' => Out5 w.heap.size w' e [] 0 0 0 0 0 false 7 ∧ Below w.heap.size w w' := by
  obtain ⟨W0, hW0⟩ : ∃ W0, W0 = ((w.alloc (.cells #[.int .i64 f, .int .i64 root, .int .i64 n] 25)).alloc zero25).alloc zero25 := ⟨_, rfl⟩
  have hsz := Lib.hid (show W0.heap.size = w.heap.size + 3 by rw [hW0, World.size_alloc, World.size_alloc, World.size_alloc])
  have b1 := Lib.hid (show W0.heap[w.heap.size]? = some (.cells #[.int .i64 f, .int .i64 root, .int .i64 n] 25 (0, 0)) by
    rw [hW0]
    exact blk_alloc (blk_alloc (heap_alloc_new w _) _) _)
  have b2 := Lib.hid (show W0.heap[w.heap.size + 1]? = some (.cells #[.int .i64 0, .int .i64 0, .int .i64 0] 25 (0, 0)) by
    have := blk_alloc (heap_alloc_new (w.alloc (.cells #[.int .i64 f, .int .i64 root, .int .i64 n] 25)) zero25) zero25
    rw [World.size_alloc] at this
    rw [hW0]
    exact this)
  have b3 := Lib.hid (show W0.heap[w.heap.size + 2]? = some (.cells #[.int .i64 0, .int .i64 0, .int .i64 0] 25 (0, 0)) by
    have := heap_alloc_new ((w.alloc (.cells #[.int .i64 f, .int .i64 root, .int .i64 n] 25)).alloc zero25) zero25
    rw [World.size_alloc, World.size_alloc] at this
    rw [hW0]
    exact this)
  have hB0 := Lib.hid (show Below w.heap.size w W0 by
    rw [hW0]
    exact (((Below.refl _ _).alloc (Nat.le_refl _) _).alloc (by rw [World.size_alloc]; omega) _).alloc (by rw [World.size_alloc, World.size_alloc]; omega) _)
  have hBw := Lib.hid (fun W (hW : Below W0.heap.size W0 W) => (hB0.out.trans (hW.mono (by have := hsz.out; omega)) : Below w.heap.size w W))
  have hla := Lib.hid (fun W (hW : Below W0.heap.size W0 W) => by have := sought_calls H f root n x A c W (Nodes.below hC (hBw.out W hW)) hLa; rw [ha] at this; exact this)
  have heb : (f != 3) = true := bne_iff_ne.mpr he
  clear hC hLa ha he
  go_enter Tryz.func44, Tryz.ntmps44
  go_wp2_with fail
  rw [← hW0]
  clear hW0
  refine (hla.out _ (Below.refl _ _)).mono ?_
  rintro e w1 ⟨⟨v1, l1, rfl, o1, hx0, hx1⟩, hb1⟩
  have hBf := Lib.hid (hBw.out _ hb1)
  have hr7 := blk_below b2.out hb1
  have hr8 := blk_below b3.out hb1
  have hr0 := blk_below b1.out hb1
  have hf7 := blk_frozen hr7
  have hf8 := blk_frozen hr8
  have c00 : w1.cell? ⟨w.heap.size, 0, none⟩ = some (.int .i64 f) := by rw [blk_cell hr0]; rfl
  have c01 : w1.cell? ⟨w.heap.size, 1, none⟩ = some (.int .i64 root) := by rw [blk_cell hr0]; rfl
  have c70 : w1.cell? ⟨w.heap.size + 1, 0, none⟩ = some (.int .i64 0) := by rw [blk_cell hr7]; rfl
  have c71 : w1.cell? ⟨w.heap.size + 1, 1, none⟩ = some (.int .i64 0) := by rw [blk_cell hr7]; rfl
  have c72 : w1.cell? ⟨w.heap.size + 1, 2, none⟩ = some (.int .i64 0) := by rw [blk_cell hr7]; rfl
  have c80 : w1.cell? ⟨w.heap.size + 2, 0, none⟩ = some (.int .i64 0) := by rw [blk_cell hr8]; rfl
  have c81 : w1.cell? ⟨w.heap.size + 2, 1, none⟩ = some (.int .i64 0) := by rw [blk_cell hr8]; rfl
  have c82 : w1.cell? ⟨w.heap.size + 2, 2, none⟩ = some (.int .i64 0) := by rw [blk_cell hr8]; rfl
  replace hr7 := Lib.hid hr7
  replace hr8 := Lib.hid hr8
  replace hr0 := Lib.hid hr0
  clear hb1 o1 hx1 hx0
  go_wp2
  refine bodyPost_ret (results_tcctt rfl _ _ (w.heap.size + 1) (w.heap.size + 2) #[.int .i64 0, .int .i64 0, .int .i64 0] #[.int .i64 0, .int .i64 0, .int .i64 0] rfl rfl (load_two (by omega) hr7.out hr8.out).1 (load_two (by omega) hr7.out hr8.out).2) rfl ?_
  exact ⟨⟨_, rfl, Kd.R_nil _ _ _ _ _⟩, below_set2 2 (below_set2 1 hBf.out _ _ _) _ _ _⟩
end WT
end Go.Proofs.YtbfedeedicnedaaGreat
end
section
namespace Go.Proofs.YtbfedeedicnedaaGreat
open Go.RowKit
open Go.Proofs.YtbfedeedicnedaaGreatW.PrintWords
theorem shape_new (w : World) (f root n : Int) : (w.alloc (.cells #[.int .i64 f, .int .i64 root, .int .i64 n] 25)).heap[w.heap.size]? = some (.cells #[.int .i64 f, .int .i64 root, .int .i64 n] 25 (0, 0)) := heap_alloc_new _ _
theorem shape_cells {W0 W : World} {g : Nat} {f root n : Int} (h : W0.heap[g]? = some (.cells #[.int .i64 f, .int .i64 root, .int .i64 n] 25 (0, 0))) (hW : Below W0.heap.size W0 W) :
    W.cell? ⟨g, 0, none⟩ = some (.int .i64 f) ∧ W.cell? ⟨g, 1, none⟩ = some (.int .i64 root) ∧ W.cell? ⟨g, 2, none⟩ = some (.int .i64 n) := by
  have hr := blk_below h hW
  exact ⟨by rw [blk_cell hr]; rfl, by rw [blk_cell hr]; rfl, by rw [blk_cell hr]; rfl⟩
set_option maxRecDepth 100000 in
set_option maxHeartbeats 4000000 in
theorem splits_works (hwk : Works) (H : Sh.Hp) (f root n x : Int) (A : Option Addr) (c : Nat) (w : World) (hC : Nodes w A H) (hc : H.length ≤ c) (hb : Sh.largeB H = true) :
    Calls Tryz.prog 9 #[.slice A H.length c, shV f root n, .int .i64 x] w fun e w' => e = .returned (.bool true) ∧ Below w.heap.size w w' := by
  have hwh := Lib.hid hwk
  have hB0 := Lib.hid (shape_box w f root n)
  have hlg := Lib.hid (large_calls H A c _ (Kd.C_below hC hB0.out) hc hb)
  clear hC hb hwk
  go_enter Tryz.func9, Tryz.ntmps9
  go_wp2_with fail
  refine (hlg.out).mono ?_
  rintro e w1 ⟨rfl, hd⟩
  have hB := Lib.hid (below_step hB0.out hd.below)
  clear hd
  go_wp2_with fail
  refine (hwh.out _).mono ?_
  rintro e w2 ⟨rfl, hb⟩
  have hB2 := Lib.hid (below_step hB.out hb)
  clear hb
  go_wp2
  go_ret
  exact ⟨rfl, hB2.out⟩
set_option maxRecDepth 100000 in
set_option maxHeartbeats 4000000 in
theorem splits_err (hwk : Works) (H : Sh.Hp) (f root n x : Int) (A : Option Addr) (c : Nat) (w : World) (hC : Nodes w A H) (hc : H.length ≤ c) (hb : Sh.largeB H = false)
    {e0 : Int} (he : (Sh.sought H f root n x).2 = e0) (he0 : e0 ≠ 0)
    (hsp : ∀ W, Below w.heap.size w W → Calls Tryz.prog 44 #[.slice A H.length c, shV f root n, .int .i64 x] W fun e w' => Out5 W.heap.size w' e [] 0 0 0 0 0 false e0 ∧ Below W.heap.size W w') :
    Calls Tryz.prog 9 #[.slice A H.length c, shV f root n, .int .i64 x] w fun e w' => e = .returned (.bool true) ∧ Below w.heap.size w w' := by
  have hwh := Lib.hid hwk
  have hsm := Sh.largeB_small hb
  have hbig : Small H := fun h p hp => ⟨by have := ((hsm.2 h).2 p hp).1; omega, by have := ((hsm.2 h).2 p hp).2; omega⟩
  obtain ⟨W0, hW0⟩ : ∃ W0, W0 = w.alloc (.cells #[.int .i64 f, .int .i64 root, .int .i64 n] 25) := ⟨_, rfl⟩
  have hB0 := Lib.hid (shape_box w f root n)
  have hX0 := Lib.hid (shape_new w f root n)
  rw [← hW0] at hB0 hX0
  have hBw := Lib.hid (fun W (hW : Below W0.heap.size W0 W) => (below_step hB0.out hW : Below w.heap.size w W))
  have hlg := Lib.hid (large_calls H A c W0 (Kd.C_below hC hB0.out) hc hb)
  have hrc := Lib.hid (fun W (hW : Below W0.heap.size W0 W) => by have := rasked_calls H f root n x A c W (Kd.C_below hC (hBw.out W hW)) hc (by omega) hbig; rw [he] at this; exact this)
  have hsh := Lib.hid (fun W (hW : Below W0.heap.size W0 W) => hsp W (hBw.out W hW))
  have heb : (e0 != e0) = false := by simp
  have he1 : (e0 != 0) = true := bne_iff_ne.mpr he0
  have he2 : (e0 == 0) = false := beq_eq_false_iff_ne.mpr he0
  clear hC hb hwk he he0 hsm hbig hsp
  go_enter Tryz.func9, Tryz.ntmps9
  go_wp2_with fail
  rw [← hW0]
  clear hW0
  refine (hlg.out).mono ?_
  rintro e w1 ⟨rfl, hd⟩
  have hB1 := Lib.hid hd.below
  obtain ⟨c0, c1, c2⟩ := shape_cells hX0.out hB1.out
  clear hd
  go_wp2_with fail
  refine (hsh.out _ hB1.out).mono ?_
  rintro e w2 ⟨⟨v, rfl, hR⟩, hb⟩
  obtain ⟨A7, c7, hv⟩ := Kd.R_slice hR
  have hv' : v = .slice A7 0 c7 := hv
  subst hv'
  have hB2 := Lib.hid (below_step hB1.out hb)
  have hB3 := Lib.hid (show Below W0.heap.size W0 ((w2.alloc (.cells #[.int .i64 0, .int .i64 0, .int .i64 0] 25)).alloc (.cells #[.int .i64 0, .int .i64 0, .int .i64 0] 25)) from (hB2.out.alloc hB2.out.size _).alloc (by rw [World.size_alloc]; have := hB2.out.size; omega) _)
  have p1 := Lib.hid (blk_alloc (heap_alloc_new w2 (.cells #[.int .i64 0, .int .i64 0, .int .i64 0] 25)) (.cells #[.int .i64 0, .int .i64 0, .int .i64 0] 25))
  have p2 := Lib.hid (show ((w2.alloc (.cells #[.int .i64 0, .int .i64 0, .int .i64 0] 25)).alloc (.cells #[.int .i64 0, .int .i64 0, .int .i64 0] 25)).heap[w2.heap.size + 1]? = some (.cells #[.int .i64 0, .int .i64 0, .int .i64 0] 25 (0, 0)) by
    have := heap_alloc_new (w2.alloc (.cells #[.int .i64 0, .int .i64 0, .int .i64 0] 25)) (.cells #[.int .i64 0, .int .i64 0, .int .i64 0] 25)
    rw [World.size_alloc] at this
    exact this)
  obtain ⟨d0, d1, d2⟩ := shape_cells hX0.out hB3.out
  clear hb hR hv c0 c1 c2
  have hr3 := Lib.hid (hrc.out _ hB3.out)
  go_wp2_with fail
  refine (hr3.out).mono ?_
  rintro e w3 ⟨rfl, hb⟩
  obtain ⟨a0, a1, a2⟩ := shape_cells p1.out hb
  obtain ⟨b0, b1, b2⟩ := shape_cells p2.out hb
  have p1' := Lib.hid (blk_below p1.out hb)
  have p2' := Lib.hid (blk_below p2.out hb)
  have hB4 := Lib.hid (below_step hB3.out hb)
  have hng := Lib.hid (fun W => nothing_calls A7 c7 W)
  clear hb d0 d1 d2
  go_wp2_with fail
  refine (hng.out _).mono ?_
  rintro e w4 ⟨rfl, hb⟩
  obtain ⟨b0', b1', b2'⟩ := shape_cells p2'.out hb
  have hB5 := Lib.hid (below_step hB4.out hb)
  clear hb b0 b1 b2 a0 a1 a2
  go_wp2_with fail
  refine (hng.out _).mono ?_
  rintro e w5 ⟨rfl, hb⟩
  have hB6 := Lib.hid (below_step hB5.out hb)
  clear hb b0' b1' b2'
  go_wp2_with fail
  refine (hwh.out _).mono ?_
  rintro e w6 ⟨rfl, hb⟩
  have hB7 := Lib.hid (hBw.out _ (below_step hB6.out hb))
  clear hb
  go_wp2
  go_ret
  exact ⟨rfl, hB7.out⟩
set_option maxRecDepth 100000 in
set_option maxHeartbeats 4000000 in
theorem splits_rule (hwk : Works) (H : Sh.Hp) (f root n x : Int) (A : Option Addr) (c : Nat) (w : World) (hC : Nodes w A H) (hc : H.length ≤ c) (hb : Sh.largeB H = false)
    (he : (Sh.sought H f root n x).2 = 0) (hf : f ≠ 3)
    (hsp : ∀ W, Below w.heap.size w W → Calls Tryz.prog 44 #[.slice A H.length c, shV f root n, .int .i64 x] W fun e w' => Out5 W.heap.size w' e [] 0 0 0 0 0 false 7 ∧ Below W.heap.size W w') :
    Calls Tryz.prog 9 #[.slice A H.length c, shV f root n, .int .i64 x] w fun e w' => e = .returned (.bool true) ∧ Below w.heap.size w w' := by
  have hwh := Lib.hid hwk
  have hsm := Sh.largeB_small hb
  have hbig : Small H := fun h p hp => ⟨by have := ((hsm.2 h).2 p hp).1; omega, by have := ((hsm.2 h).2 p hp).2; omega⟩
  obtain ⟨W0, hW0⟩ : ∃ W0, W0 = w.alloc (.cells #[.int .i64 f, .int .i64 root, .int .i64 n] 25) := ⟨_, rfl⟩
  have hB0 := Lib.hid (shape_box w f root n)
  have hX0 := Lib.hid (shape_new w f root n)
  rw [← hW0] at hB0 hX0
  have hBw := Lib.hid (fun W (hW : Below W0.heap.size W0 W) => (below_step hB0.out hW : Below w.heap.size w W))
  have hlg := Lib.hid (large_calls H A c W0 (Kd.C_below hC hB0.out) hc hb)
  have hrc := Lib.hid (fun W (hW : Below W0.heap.size W0 W) => by have := rasked_calls H f root n x A c W (Kd.C_below hC (hBw.out W hW)) hc (by omega) hbig; rw [he] at this; exact this)
  have hsh := Lib.hid (fun W (hW : Below W0.heap.size W0 W) => hsp W (hBw.out W hW))
  have hfb : (f != 3) = true := bne_iff_ne.mpr hf
  clear hC hb hwk he hf hsm hbig hsp
  go_enter Tryz.func9, Tryz.ntmps9
  go_wp2_with fail
  rw [← hW0]
  clear hW0
  refine (hlg.out).mono ?_
  rintro e w1 ⟨rfl, hd⟩
  have hB1 := Lib.hid hd.below
  obtain ⟨c0, c1, c2⟩ := shape_cells hX0.out hB1.out
  clear hd
  go_wp2_with fail
  refine (hsh.out _ hB1.out).mono ?_
  rintro e w2 ⟨⟨v, rfl, hR⟩, hb⟩
  obtain ⟨A7, c7, hv⟩ := Kd.R_slice hR
  have hv' : v = .slice A7 0 c7 := hv
  subst hv'
  have hB2 := Lib.hid (below_step hB1.out hb)
  have hB3 := Lib.hid (show Below W0.heap.size W0 ((w2.alloc (.cells #[.int .i64 0, .int .i64 0, .int .i64 0] 25)).alloc (.cells #[.int .i64 0, .int .i64 0, .int .i64 0] 25)) from (hB2.out.alloc hB2.out.size _).alloc (by rw [World.size_alloc]; have := hB2.out.size; omega) _)
  have p1 := Lib.hid (blk_alloc (heap_alloc_new w2 (.cells #[.int .i64 0, .int .i64 0, .int .i64 0] 25)) (.cells #[.int .i64 0, .int .i64 0, .int .i64 0] 25))
  have p2 := Lib.hid (show ((w2.alloc (.cells #[.int .i64 0, .int .i64 0, .int .i64 0] 25)).alloc (.cells #[.int .i64 0, .int .i64 0, .int .i64 0] 25)).heap[w2.heap.size + 1]? = some (.cells #[.int .i64 0, .int .i64 0, .int .i64 0] 25 (0, 0)) by
    have := heap_alloc_new (w2.alloc (.cells #[.int .i64 0, .int .i64 0, .int .i64 0] 25)) (.cells #[.int .i64 0, .int .i64 0, .int .i64 0] 25)
    rw [World.size_alloc] at this
    exact this)
  obtain ⟨d0, d1, d2⟩ := shape_cells hX0.out hB3.out
  clear hb hR hv c0 c1 c2
  have hr3 := Lib.hid (hrc.out _ hB3.out)
  go_wp2_with fail
  refine (hr3.out).mono ?_
  rintro e w3 ⟨rfl, hb⟩
  obtain ⟨a0, a1, a2⟩ := shape_cells p1.out hb
  obtain ⟨b0, b1, b2⟩ := shape_cells p2.out hb
  have p1' := Lib.hid (blk_below p1.out hb)
  have p2' := Lib.hid (blk_below p2.out hb)
  have hB4 := Lib.hid (below_step hB3.out hb)
  have hng := Lib.hid (fun W => nothing_calls A7 c7 W)
  obtain ⟨q0, q1, q2⟩ := shape_cells hX0.out hB4.out
  clear hb d0 d1 d2
  go_wp2_with fail
  refine (hng.out _).mono ?_
  rintro e w4 ⟨rfl, hb⟩
  obtain ⟨b0', b1', b2'⟩ := shape_cells p2'.out hb
  have hB5 := Lib.hid (below_step hB4.out hb)
  clear hb b0 b1 b2 a0 a1 a2 q0 q1 q2
  go_wp2_with fail
  refine (hng.out _).mono ?_
  rintro e w5 ⟨rfl, hb⟩
  have hB6 := Lib.hid (below_step hB5.out hb)
  clear hb b0' b1' b2'
  go_wp2_with fail
  refine (hwh.out _).mono ?_
  rintro e w6 ⟨rfl, hb⟩
  have hB7 := Lib.hid (hBw.out _ (below_step hB6.out hb))
  clear hb
  go_wp2
  go_ret
  exact ⟨rfl, hB7.out⟩
set_option maxRecDepth 100000 in
set_option maxHeartbeats 8000000 in
theorem splits_good (hwk : Works) (H : Sh.Hp) (root n x t : Int) (l : List Int) (A : Option Addr) (c : Nat) (w : World) (hC : Nodes w A H) (hc : H.length ≤ c) (hb : Sh.largeB H = false) (h30 : H.length ≤ 3000)
    (ha : Sh.sought H 3 root n x = (l, 0)) (hel : Sh.elems H 3 root n = some l) (Tt : Sh.Tr H root (-1) 1024 l t) :
    Calls Tryz.prog 9 #[.slice A H.length c, shV 3 root n, .int .i64 x] w fun e w' => e = .returned (.bool true) ∧ Below w.heap.size w w' := by
  have hwh := Lib.hid hwk
  obtain ⟨h400, hsm⟩ := (Sh.largeB_small hb).2 h30
  have hbig : ∀ p ∈ H, p.1.length ≤ 1000000 ∧ p.2.length ≤ 1000000 := fun p hp => ⟨by have := (hsm p hp).1; omega, by have := (hsm p hp).2; omega⟩
  have hll : l.length ≤ 1024 := Sh.els_len (Sh.listTree_els (Sh.listTree_iff.2 ⟨t, Tt⟩))
  have ht := Tt.low
  have ht0 := Tt.nonneg
  obtain ⟨W0, hW0⟩ : ∃ W0, W0 = w.alloc (.cells #[.int .i64 3, .int .i64 root, .int .i64 n] 25) := ⟨_, rfl⟩
  have hB0 := Lib.hid (shape_box w 3 root n)
  have hX0 := Lib.hid (shape_new w 3 root n)
  rw [← hW0] at hB0 hX0
  have hBw := Lib.hid (fun W (hW : Below W0.heap.size W0 W) => (below_step hB0.out hW : Below w.heap.size w W))
  have hNo := Lib.hid (fun W (hW : Below W0.heap.size W0 W) => (Kd.C_below hC (hBw.out W hW) : Nodes W A H))
  have hlg := Lib.hid (large_calls H A c W0 (Kd.C_below hC hB0.out) hc hb)
  have hrc := Lib.hid (fun W (hW : Below W0.heap.size W0 W) => by have := rasked_calls H 3 root n x A c W (hNo.out W hW) hc (by omega) (fun _ => hbig); rw [ha] at this; exact this)
  have hsh := Lib.hid (fun W (hW : Below W0.heap.size W0 W) => split_is (c := c) (hNo.out W hW) (listsF_plain (fun p hp => (hbig p hp).1) nd3) ha Tt (by omega) hbig)
  have hec := Lib.hid (fun W (hW : Below W0.heap.size W0 W) => by have := relements_calls H 3 root n A c W (hNo.out W hW) hc (by omega) (fun h => (hbig _ (List.mem_of_getElem? (Sh.nd_there h))).1); rw [hel] at this; exact this)
  have hht := Lib.hid (fun W (hW : Below W0.heap.size W0 W) => Height_calls Tt 3 n A c W (hNo.out W hW) hc)
  have hpa := Lib.hid (fun (A2 : Option Addr) (c2 : Nat) W (hL : Kd.C kI W A2 l.length l) (hc2 : l.length ≤ c2) => parts_calls' l x A2 c2 W hL hc2 (by omega))
  have hli := Lib.hid (fun (A2 : Option Addr) (c2 : Nat) W (hL : Kd.C kI W A2 l.length l) (hc2 : l.length ≤ c2) => Listed_calls l x A2 c2 W hL hc2 (by omega) rfl)
  have hho := Lib.hid (fun (K : Sh.Hp) (r : Int) (b : List Int) (AG : Option Addr) (cG : Nat) (A2 : Option Addr) (c2 : Nat) (W : World) (hW : Below W0.heap.size W0 W) (hH : Sh.Has H K 3 r b (10 * t.toNat)) (hbl : b.length ≤ 1000000) hG hcG hL2 hc2 =>
    holds_has hH (n := (b.length : Int)) (m' := 20 * (t + 2)) rfl (by omega) (by omega) A c AG cG A2 c2 W (hNo.out W hW) hc hG hcG hL2 hc2 (by omega) hbl hbig)
  have hba : (Sh.below l x).length ≤ l.length := List.length_filter_le _ _
  have hab : (Sh.above l x).length ≤ l.length := List.length_filter_le _ _
  have hw1 : IntKind.i64.wrap (t + 2) = t + 2 := IntWalk.i64_in _ (by omega)
  have hw2 : IntKind.i64.wrap (20 * (t + 2)) = 20 * (t + 2) := IntWalk.i64_in _ (by omega)
  have heq : (l.contains x == l.contains x) = true := beq_self_eq_true _
  generalize l.contains x = is at *
  obtain ⟨a, hA⟩ : ∃ a, a = Sh.below l x := ⟨_, rfl⟩
  obtain ⟨b, hBb⟩ : ∃ b, b = Sh.above l x := ⟨_, rfl⟩
  rw [← hA] at hba hpa hsh
  rw [← hBb] at hab hpa hsh
  replace hba := Lib.hid (show a.length ≤ 1000000 by omega)
  replace hab := Lib.hid (show b.length ≤ 1000000 by omega)
  have hho1 := Lib.hid (fun K r AG cG A2 c2 W hW hH hG hcG hL2 hc2 => hho.out K r a AG cG A2 c2 W hW hH hba.out hG hcG hL2 hc2)
  have hho2 := Lib.hid (fun K r AG cG A2 c2 W hW hH hG hcG hL2 hc2 => hho.out K r b AG cG A2 c2 W hW hH hab.out hG hcG hL2 hc2)
  clear hC hb hwk hsm hbig h400 h30 ha hel Tt hll ht ht0 hA hBb hho hNo
  go_enter Tryz.func9, Tryz.ntmps9
  go_wp2_with fail
  rw [← hW0]
  clear hW0
  refine (hlg.out).mono ?_
  rintro e w1 ⟨rfl, hd⟩
  have hB1 := Lib.hid hd.below
  obtain ⟨c0, c1, c2⟩ := shape_cells hX0.out hB1.out
  clear hd hlg
  go_wp2_with fail
  refine (hsh.out _ hB1.out).mono ?_
  rintro e w2 ⟨⟨A7, c7, K, r1, r2, rfl, hR, hHa, hHb⟩, hb⟩
  obtain ⟨k, hk⟩ : ∃ q, q = K.length := ⟨_, rfl⟩
  rw [← hk] at hR ⊢
  have hB2 := Lib.hid (below_step hB1.out hb)
  have hB3 := Lib.hid (show Below W0.heap.size W0 ((w2.alloc (.cells #[.int .i64 3, .int .i64 r1, .int .i64 a.length] 25)).alloc (.cells #[.int .i64 3, .int .i64 r2, .int .i64 b.length] 25)) from (hB2.out.alloc hB2.out.size _).alloc (by rw [World.size_alloc]; have := hB2.out.size; omega) _)
  have hR3 := Lib.hid (show Kd.R kSN 95 ((w2.alloc (.cells #[.int .i64 3, .int .i64 r1, .int .i64 a.length] 25)).alloc (.cells #[.int .i64 3, .int .i64 r2, .int .i64 b.length] 25)) 0 (fun _ => True) (.slice A7 k c7) (sn K) from Kd.R_alloc (Kd.R_alloc hR _) _)
  have p1 := Lib.hid (blk_alloc (heap_alloc_new w2 (.cells #[.int .i64 3, .int .i64 r1, .int .i64 a.length] 25)) (.cells #[.int .i64 3, .int .i64 r2, .int .i64 b.length] 25))
  have p2 := Lib.hid (show ((w2.alloc (.cells #[.int .i64 3, .int .i64 r1, .int .i64 a.length] 25)).alloc (.cells #[.int .i64 3, .int .i64 r2, .int .i64 b.length] 25)).heap[w2.heap.size + 1]? = some (.cells #[.int .i64 3, .int .i64 r2, .int .i64 b.length] 25 (0, 0)) by
    have := heap_alloc_new (w2.alloc (.cells #[.int .i64 3, .int .i64 r1, .int .i64 a.length] 25)) (.cells #[.int .i64 3, .int .i64 r2, .int .i64 b.length] 25)
    rw [World.size_alloc] at this
    exact this)
  obtain ⟨d0, d1, d2⟩ := shape_cells hX0.out hB3.out
  have hHah := Lib.hid hHa
  have hHbh := Lib.hid hHb
  replace hk := Lib.hid hk
  clear hb hR hHa hHb c0 c1 c2
  have hr3 := Lib.hid (hrc.out _ hB3.out)
  go_wp2_with fail
  refine (hr3.out).mono ?_
  rintro e w3 ⟨rfl, hb⟩
  have hB4 := Lib.hid (below_step hB3.out hb)
  have p1' := Lib.hid (blk_below p1.out hb)
  have p2' := Lib.hid (blk_below p2.out hb)
  have hR4 := Lib.hid (Kd.R_below hR3.out hb)
  obtain ⟨q0, q1, q2⟩ := shape_cells hX0.out hB4.out
  clear hb d0 d1 d2 hR3 p1 p2 hr3 hrc
  go_wp2_with fail
  refine (hec.out _ hB4.out).mono ?_
  rintro e w4 ⟨⟨A5, c5, l', rfl, hc5, hC5, hm⟩, hb⟩
  obtain rfl := hm l rfl
  have hB5 := Lib.hid (below_step hB4.out hb)
  have p1 := Lib.hid (blk_below p1'.out hb)
  have p2 := Lib.hid (blk_below p2'.out hb)
  have hR5 := Lib.hid (Kd.R_below hR4.out hb)
  have hpa4 := Lib.hid (hpa.out _ _ _ hC5 hc5)
  replace hc5 := Lib.hid hc5
  replace hC5 := Lib.hid hC5
  clear hb q0 q1 q2 hR4 p1' p2' hm hec hpa
  go_wp2_with fail
  refine (hpa4.out).mono ?_
  rintro e w5 ⟨⟨A8, c8, A9, c9, rfl, hc8, hC8, hc9, hC9⟩, hb⟩
  have hB6 := Lib.hid (below_step hB5.out hb)
  have p1' := Lib.hid (blk_below p1.out hb)
  have p2' := Lib.hid (blk_below p2.out hb)
  have hR6 := Lib.hid (Kd.R_below hR5.out hb)
  have hC5' := Lib.hid (Kd.C_below hC5.out hb)
  replace hc8 := Lib.hid hc8
  replace hC8 := Lib.hid hC8
  replace hc9 := Lib.hid hc9
  replace hC9 := Lib.hid hC9
  obtain ⟨q0, q1, q2⟩ := shape_cells hX0.out hB6.out
  clear hb hR5 p1 p2 hC5 hpa4
  go_wp2_with fail
  refine (hht.out _ hB6.out).mono ?_
  rintro e w6 ⟨rfl, hb⟩
  have hB7 := Lib.hid (below_step hB6.out hb)
  have p1 := Lib.hid (blk_below p1'.out hb)
  have p2 := Lib.hid (blk_below p2'.out hb)
  have hR7 := Lib.hid (Kd.R_below hR6.out hb)
  have hli6 := Lib.hid (hli.out _ _ _ (Kd.C_below hC5'.out hb) hc5.out)
  have hC8' := Lib.hid (Kd.C_below hC8.out hb)
  have hC9' := Lib.hid (Kd.C_below hC9.out hb)
  clear hb q0 q1 q2 hR6 p1' p2' hC5' hC8 hC9 hli hht
  go_wp2_with fail
  refine (hli6.out).mono ?_
  rintro e w7 ⟨rfl, hd⟩
  have hB8 := Lib.hid (below_step hB7.out hd.below)
  have p2' := Lib.hid (blk_below p2.out hd.below)
  have hR8 := Lib.hid (Kd.R_below hR7.out hd.below)
  have hC8 := Lib.hid (Kd.C_below hC8'.out hd.below)
  have hC9 := Lib.hid (Kd.C_below hC9'.out hd.below)
  obtain ⟨q0, q1, q2⟩ := shape_cells p1.out hd.below
  have hh1 := Lib.hid (by
    have hrr := Kd.R_reads' hR8.out
    rw [sn_len, ← hk.out] at hrr
    have := hho1.out K r1 A7 c7 A8 c8 w7 hB8.out hHah.out (by show Kd.C kSN w7 A7 K.length (sn K); rw [← hk.out]; exact hrr.2.2) (by rw [← hk.out]; exact hrr.2.1) hC8.out hc8.out
    rw [← hk.out] at this
    exact this : Calls Tryz.prog 32 #[.slice A H.length c, .slice A7 k c7, shV 3 r1 a.length, .int .i64 3, .slice A8 a.length c8, .int .i64 (20 * (t + 2))] w7 fun e w' => e = .returned (.bool true) ∧ Below w7.heap.size w7 w')
  clear hd hR7 p1 p2 hC8' hC9' hho1 hHah hli6 hC8
  go_wp2_with fail
  refine (hh1.out).mono ?_
  rintro e w8 ⟨rfl, hb⟩
  have hB9 := Lib.hid (below_step hB8.out hb)
  have hR9 := Lib.hid (Kd.R_below hR8.out hb)
  have hC9' := Lib.hid (Kd.C_below hC9.out hb)
  obtain ⟨s0, s1, s2⟩ := shape_cells p2'.out hb
  have hh2 := Lib.hid (by
    have hrr := Kd.R_reads' hR9.out
    rw [sn_len, ← hk.out] at hrr
    have := hho2.out K r2 A7 c7 A9 c9 w8 hB9.out hHbh.out (by show Kd.C kSN w8 A7 K.length (sn K); rw [← hk.out]; exact hrr.2.2) (by rw [← hk.out]; exact hrr.2.1) hC9'.out hc9.out
    rw [← hk.out] at this
    exact this : Calls Tryz.prog 32 #[.slice A H.length c, .slice A7 k c7, shV 3 r2 b.length, .int .i64 3, .slice A9 b.length c9, .int .i64 (20 * (t + 2))] w8 fun e w' => e = .returned (.bool true) ∧ Below w8.heap.size w8 w')
  clear hb q0 q1 q2 hR8 p2' hho2 hHbh hh1 hC9
  go_wp2_with fail
  refine (hh2.out).mono ?_
  rintro e w9 ⟨rfl, hb⟩
  have hB10 := Lib.hid (below_step hB9.out hb)
  clear hb s0 s1 s2 hh2
  go_wp2_with fail
  refine (hwh.out _).mono ?_
  rintro e w10 ⟨rfl, hb⟩
  have hB11 := Lib.hid (hBw.out _ (below_step hB10.out hb))
  clear hb
  go_wp2
  go_ret
  exact ⟨rfl, hB11.out⟩
end Go.Proofs.YtbfedeedicnedaaGreat
end
section
namespace Go.Proofs.YtbfedeedicnedaaGreat
open Go.RowKit
def regionOf (n : Nat) : Code → Option Code
  | .region id ops d => if id = n then some (.region id ops d) else none
  | .seq a b => match regionOf n a with
    | some c => some c
    | none => regionOf n b
  | .cond _ a b => match regionOf n a with
    | some c => some c
    | none => regionOf n b
  | .block _ c => regionOf n c
  | .scope c => regionOf n c
  | .loop c => regionOf n c
  | _ => none
noncomputable def wreg (n : Nat) : Code := (Tryz.f15.body.bind (regionOf n)).getD .skip
def afterStmt (n : Nat) : Code → Option Code
  | .seq a b => if (regionOf n a).isSome then some b else afterStmt n b
  | _ => none
noncomputable def wafter (n : Nat) : Code := (Tryz.f15.body.bind (afterStmt n)).getD .skip
end Go.Proofs.YtbfedeedicnedaaGreat
end
