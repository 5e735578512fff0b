/-
  Texts of this claim: ShWT, ShWT2, ShSp, ShJd, ShJe.
-/
import Derived.Test.YtbfedeedicnedaaGreatSj33
import Derived.Test.YtbfedeedicnedaaGreatSj36
set_option linter.unusedVariables false
set_option linter.unusedSimpArgs false
set_option maxHeartbeats 8000000
set_option maxRecDepth 100000
section
namespace Go.Proofs.YtbfedeedicnedaaGreat
open Go.RowKit
open Go.Proofs.YtbfedeedicnedaaGreatW.PrintWords
theorem GotX.weak {ex : Prop} {base : Nat} {w' : World} {e : Ending} {r : Option (List Int)} (h : GotX False base w' e r) (hx : ¬ ex) : GotX ex base w' e r := by
  obtain ⟨v, l, he, hv, hl, _⟩ := h
  exact ⟨v, l, he, hv, hl, fun h => absurd h hx⟩
namespace WT
def Nodes (w : World) (A : Option Addr) (H : Sh.Hp) : Prop := Go.Proofs.YtbfedeedicnedaaGreat.Nodes w A H ∧ TabOk w
theorem Nodes.alloc {w : World} {A : Option Addr} {H : Sh.Hp} (h : Nodes w A H) (o : Obj) : Nodes (w.alloc o) A H :=
  ⟨Kd.C_alloc h.1 o, h.2.below ((Below.refl w.heap.size w).alloc (Nat.le_refl _) o) h.2.pos⟩
theorem Nodes.below {w w' : World} {A : Option Addr} {H : Sh.Hp} (h : Nodes w A H) (hb : Below w.heap.size w w') : Nodes w' A H :=
  ⟨Kd.C_below h.1 hb, h.2.below hb h.2.pos⟩
def ListsF (H : Sh.Hp) (f : Int) : Prop := H.length ≤ 3000 → ∀ (ty k : Nat), (ty = 154 ∧ k = 163 ∧ f = 1) ∨ (ty = 155 ∧ k = 168 ∧ f = 2) ∨ (ty = 119 ∧ k = 155 ∧ f = 3) ∨ (ty = 156 ∧ k = 181 ∧ f = 4) ∨ (ty = 157 ∧ k = 191 ∧ f = 5) → ∀ (root : Int) (A : Option Addr) (c : Nat) (w : World), Nodes w A H →
  Calls Tryz.prog k #[.agg #[], .slice A H.length c, .int .i64 root] w fun e w' => GotX (¬ Digital f) w.heap.size w' e (Sh.list f H root) ∧ Below w.heap.size w w'
theorem listed_calls (H : Sh.Hp) (f root count : Int) (A : Option Addr) (c : Nat) (w : World) (hC : Nodes w A H) (hL : ListsF H f) :
    Calls Tryz.prog 60 #[.slice A H.length c, .agg #[.int .i64 f, .int .i64 root, .int .i64 count]] w fun e w' => LGot (¬ Digital f) w.heap.size w' e (Sh.listed H f root count) ∧ Below w.heap.size w w' := by
  have hB0 := Lib.hid (show Below w.heap.size w (w.alloc (.cells #[.int .i64 f, .int .i64 root, .int .i64 count] 25)) from (Below.refl _ _).alloc (Nat.le_refl _) _)
  obtain ⟨R, hR⟩ : ∃ R, R = Sh.listed H f root count := ⟨_, rfl⟩
  rw [← hR]
  unfold Sh.listed at hR
  by_cases h1 : 3000 < H.length
  · rw [if_pos h1] at hR
    subst hR
    go_enter Tryz.func60, Tryz.ntmps60
    go_wp2
    go_ret2
    exact ⟨⟨_, [], rfl, Kd.R_nil _ _ _ _ _, rfl, fun _ => rfl⟩, hB0.out⟩
  rw [if_neg h1] at hR
  have hkn := Lib.hid (fun W => known_calls f W)
  by_cases hf : 1 ≤ f ∧ f ≤ 5
  case neg =>
    have hkf : (decide (1 ≤ f) && decide (f ≤ 5)) = false := by rw [Bool.and_eq_false_iff, decide_eq_false_iff_not, decide_eq_false_iff_not]; omega
    rw [hkf] at hkn
    have hln : Sh.list f H root = none := by
      unfold Sh.list
      rw [if_neg (by omega), if_neg (by omega), if_neg (by omega), if_neg (by omega), if_neg (by omega)]
    rw [hln] at hR
    have hR' : R = ([], 2) := hR
    clear hR
    subst hR'
    clear hkf hln hL
    go_enter Tryz.func60, Tryz.ntmps60
    go_wp2_with fail
    refine (hkn.out _).mono ?_
    rintro e w1 ⟨rfl, rfl⟩
    go_wp2
    go_ret2
    exact ⟨⟨_, [], rfl, Kd.R_nil _ _ _ _ _, rfl, fun _ => rfl⟩, hB0.out⟩
  case pos =>
    obtain ⟨h2, h3⟩ := hf
    have hkf : (decide (1 ≤ f) && decide (f ≤ 5)) = true := by rw [decide_eq_true h2, decide_eq_true h3]; rfl
    rw [hkf] at hkn
    have hof := Lib.hid (fun W => of_calls f W h2 h3)
    obtain ⟨ty, k, hfv, hk, hm⟩ : ∃ (ty k : Nat), formV f = .iface ty (.agg #[]) ∧ ((ty = 154 ∧ k = 163 ∧ f = 1) ∨ (ty = 155 ∧ k = 168 ∧ f = 2) ∨ (ty = 119 ∧ k = 155 ∧ f = 3) ∨ (ty = 156 ∧ k = 181 ∧ f = 4) ∨ (ty = 157 ∧ k = 191 ∧ f = 5)) ∧ (∀ W : World, (method 312 ty (.agg #[]) "sward/shape.list").run Tryz.prog W = .ok (k, .agg #[]) W) := by
      rcases five h2 h3 with rfl | rfl | rfl | rfl | rfl
      · exact ⟨154, 163, rfl, by omega, fun _ => by kernel_rfl⟩
      · exact ⟨155, 168, rfl, by omega, fun _ => by kernel_rfl⟩
      · exact ⟨119, 155, rfl, by omega, fun _ => by kernel_rfl⟩
      · exact ⟨156, 181, rfl, by omega, fun _ => by kernel_rfl⟩
      · exact ⟨157, 191, rfl, by omega, fun _ => by kernel_rfl⟩
    have hls := Lib.hid (hL (by omega) ty k hk root)
    rw [hfv] at hof
    obtain ⟨r, hr⟩ : ∃ r, r = Sh.list f H root := ⟨_, rfl⟩
    rw [← hr] at hls hR
    obtain ⟨w2, hw2⟩ : ∃ w2, w2 = w.alloc (.cells #[.int .i64 f, .int .i64 root, .int .i64 count] 25) := ⟨_, rfl⟩
    have hsz := Lib.hid (show w.heap.size + 1 ≤ w2.heap.size by rw [hw2, World.size_alloc]; omega)
    have hc0 : ∀ W, Below (w.heap.size + 1) w2 W → W.cell? ⟨w.heap.size, 0, none⟩ = some (.int .i64 f) ∧ W.cell? ⟨w.heap.size, 1, none⟩ = some (.int .i64 root) ∧ W.cell? ⟨w.heap.size, 2, none⟩ = some (.int .i64 count) := fun W hW => by
      refine ⟨?_, ?_, ?_⟩
      all_goals
        rw [hW.cell (p := ⟨w.heap.size, _, none⟩) (by show w.heap.size < _; omega), hw2]
        simp
    have hc3 := Lib.hid (fun W hW => (hc0 W hW).2.2)
    have hcc := Lib.hid (fun W hW => (⟨hW, (hc0 W hW).1, (hc0 W hW).2.1⟩ : _ ∧ _ ∧ _))
    have hC2 : Nodes w2 A H := by rw [hw2]; exact Nodes.alloc hC _
    have hNod := Lib.hid (fun W (hW : Below (w.heap.size + 1) w2 W) => (Nodes.below hC2 (hW.mono (by rw [hw2, World.size_alloc]; omega)) : Nodes W A H))
    have hBd := Lib.hid (show Below (w.heap.size + 1) w2 w2.drew from (Below.refl _ _).drew)
    have hB2 := Lib.hid (show Below w.heap.size w w2 by rw [hw2]; exact hB0.out)
    have hexd := Lib.hid (fun (h : ¬ Digital f) => h)
    obtain ⟨D, hD⟩ : ∃ D, D = ¬ Digital f := ⟨_, rfl⟩
    rw [← hD] at hls ⊢
    replace hR := Lib.hid hR
    clear hC2 hc0 hC hL hfv hkf hr hD hexd hB0
    rcases hk with ⟨rfl, rfl, -⟩ | ⟨rfl, rfl, -⟩ | ⟨rfl, rfl, -⟩ | ⟨rfl, rfl, -⟩ | ⟨rfl, rfl, -⟩
    all_goals
      go_enter Tryz.func60, Tryz.ntmps60
      go_wp2_with fail
      refine (hkn.out _).mono ?_
      rintro e w1 ⟨rfl, rfl⟩
      go_wp2
      rw [← hw2]
      clear hw2
      go_region_held3 (fun W' => Below (w.heap.size + 1) w2 W' ∧ W'.cell? ⟨w.heap.size, 0, none⟩ = some (.int .i64 f) ∧ W'.cell? ⟨w.heap.size, 1, none⟩ = some (.int .i64 root))
        (first
          | exact hcc.out _ (by assumption)
          | exact hcc.out _ hBd.out
          | fail)
        (first
          | (go_at_call 99; refine (hof.out _).mono ?_; rintro e w3 ⟨rfl, hb1⟩; have hB3 : Below (w.heap.size + 1) w2 w3 := Below.trans hBd.out (hb1.mono hsz.out); replace hb1 := Lib.hid hb1)
          | (refine (hls.out _ _ _ ?hl).mono ?_; (case hl => exact hNod.out _ (by assumption)); rintro e w4 ⟨⟨v1, l1, rfl, ho1, ho2, ho3⟩, hb2⟩; have hB4 : Below (w.heap.size + 1) w2 w4 := Below.trans (by assumption) (hb2.mono (Nat.le_trans hsz.out (Below.size (by assumption)))); replace ho1 := Lib.hid ho1; replace ho2 := Lib.hid ho2; replace ho3 := Lib.hid ho3; replace hb2 := Lib.hid hb2))
      replace hB4 := Lib.hid (show Below (w.heap.size + 1) w2 w4 from by assumption)
      have hct := hc3.out _ hB4.out
      have hBf := Lib.hid (Below.trans hB2.out (hB4.out.mono (by omega)))
      have hof3 := Lib.hid (Kd.R_lower ho1.out (show w.heap.size ≤ w3.heap.size from Nat.le_trans (by have := hsz.out; omega) (Below.size (show Below (w.heap.size + 1) w2 w3 from by assumption))))
      rcases r with _ | l
      · obtain rfl : R = ([], 2) := hR.out
        go_wp2
        go_ret2
        exact ⟨⟨_, [], rfl, Kd.R_nil _ _ _ _ _, rfl, fun _ => rfl⟩, hBf.out⟩
      · have hlen : l1.length = l.length := ho2.out
        obtain ⟨A5, c5, rfl⟩ := Kd.R_slice hof3.out
        have hRl : R = if (l.length : Int) = count then (l, 0) else ([], 2) := hR.out
        rw [← hlen] at hRl
        obtain ⟨n, hn⟩ : ∃ n, n = l1.length := ⟨_, rfl⟩
        rw [← hn] at hRl hof3 ⊢
        replace hn := Lib.hid hn
        replace hlen := Lib.hid hlen
        by_cases hcn : (n : Int) = count
        · rw [if_pos hcn] at hRl
          subst hRl
          have hcb : ((n : Int) != count) = false := bne_eq_false_iff_eq.mpr hcn
          clear hcn
          go_wp2
          go_ret2
          exact ⟨⟨_, l1, rfl, hof3.out, hlen.out, fun h => ho3.out h⟩, hBf.out⟩
        · rw [if_neg hcn] at hRl
          subst hRl
          have hcb : ((n : Int) != count) = true := bne_iff_ne.mpr hcn
          clear hcn
          go_wp2
          go_ret2
          exact ⟨⟨_, [], rfl, Kd.R_nil _ _ _ _ _, rfl, fun _ => rfl⟩, hBf.out⟩
theorem listed_in (H : Sh.Hp) (f root count : Int) (A : Option Addr) (c : Nat) (w : World) (o : Obj) (hC : Nodes w A H) (hL : ListsF H f) :
    Calls Tryz.prog 60 #[.slice A H.length c, shV f root count] (w.alloc o) fun e w' => LGot (¬ Digital f) w.heap.size w' e (Sh.listed H f root count) ∧ Below w.heap.size w w' := by
  refine (listed_calls H f root count A c (w.alloc o) (Nodes.alloc hC _) hL).mono ?_
  rintro e w' ⟨h, hb⟩
  rw [World.size_alloc] at h hb
  exact ⟨h.lower (by omega), Below.trans ((Below.refl _ _).alloc (Nat.le_refl _) o) (hb.mono (by omega))⟩
theorem List_calls (H : Sh.Hp) (f root count : Int) (A : Option Addr) (c : Nat) (w : World) (hC : Nodes w A H) (hL : ListsF H f) :
    Calls Tryz.prog 16 #[.slice A H.length c, shV f root count] w fun e w' => LGot (¬ Digital f) w.heap.size w' e (Sh.listed H f root count) ∧ Below w.heap.size w w' := by
  have hcl := Lib.hid (listed_in H f root count A c w (.cells #[.int .i64 f, .int .i64 root, .int .i64 count] 25) hC hL)
  generalize Sh.listed H f root count = R at *
  clear hC hL
  go_enter Tryz.func16, Tryz.ntmps16
  go_wp2_with fail
  refine (hcl.out).mono ?_
  rintro e w1 ⟨⟨v, l, rfl, ho, h1, h2⟩, hb⟩
  replace ho := Lib.hid ho
  replace hb := Lib.hid hb
  go_wp2
  go_ret2
  exact ⟨⟨v, l, rfl, ho.out, h1, h2⟩, hb.out⟩
theorem Check_calls (H : Sh.Hp) (f root count : Int) (A : Option Addr) (c : Nat) (w : World) (hC : Nodes w A H) (hL : ListsF H f) :
    Calls Tryz.prog 22 #[.slice A H.length c, shV f root count] w fun e w' => e = .returned (.int .i64 (Sh.listed H f root count).2) ∧ Below w.heap.size w w' := by
  have hcl := Lib.hid (listed_in H f root count A c w (.cells #[.int .i64 f, .int .i64 root, .int .i64 count] 25) hC hL)
  generalize Sh.listed H f root count = R at *
  clear hC hL
  go_enter Tryz.func22, Tryz.ntmps22
  go_wp2_with fail
  refine (hcl.out).mono ?_
  rintro e w1 ⟨⟨v, l, rfl, ho, h1, h2⟩, hb⟩
  replace ho := Lib.hid ho
  replace hb := Lib.hid hb
  go_wp2
  go_ret
  exact ⟨rfl, hb.out⟩
theorem sought_calls (H : Sh.Hp) (f root count x : Int) (A : Option Addr) (c : Nat) (w : World) (hC : Nodes w A H) (hL : ListsF H f) :
    Calls Tryz.prog 86 #[.slice A H.length c, shV f root count, .int .i64 x] w fun e w' => LGot (¬ Digital f) w.heap.size w' e (Sh.sought H f root count x) ∧ Below w.heap.size w w' := by
  have hcl := Lib.hid (listed_in H f root count A c w (.cells #[.int .i64 f, .int .i64 root, .int .i64 count] 25) hC hL)
  obtain ⟨S, hS⟩ : ∃ S, S = Sh.sought H f root count x := ⟨_, rfl⟩
  rw [← hS]
  unfold Sh.sought at hS
  generalize Sh.listed H f root count = R at *
  obtain ⟨R1, R2⟩ := R
  clear hC hL
  have hel := Lib.hid (fun W => element_at (w := W) x (b := Sh.el x) rfl)
  by_cases h0 : R2 = 0
  · subst h0
    cases he : Sh.el x
    · rw [if_pos ⟨rfl, he⟩] at hS
      subst hS
      rw [he] at hel
      go_enter Tryz.func86, Tryz.ntmps86
      go_wp2_with fail
      refine (hcl.out).mono ?_
      rintro e w1 ⟨⟨v, l, rfl, ho, h1, h2⟩, hb⟩
      replace hb := Lib.hid hb
      clear ho h1 h2
      go_wp2_with fail
      refine (hel.out _).mono ?_
      rintro e w2 ⟨rfl, rfl⟩
      go_wp2
      go_ret2
      exact ⟨⟨_, [], rfl, Kd.R_nil _ _ _ _ _, rfl, fun _ => rfl⟩, hb.out⟩
    · rw [if_neg (fun h => by rw [he] at h; exact absurd h.2 (by decide))] at hS
      subst hS
      rw [he] at hel
      go_enter Tryz.func86, Tryz.ntmps86
      go_wp2_with fail
      refine (hcl.out).mono ?_
      rintro e w1 ⟨⟨v, l, rfl, ho, h1, h2⟩, hb⟩
      replace ho := Lib.hid ho
      replace hb := Lib.hid hb
      replace h1 := Lib.hid h1
      go_wp2_with fail
      refine (hel.out _).mono ?_
      rintro e w2 ⟨rfl, rfl⟩
      go_wp2
      go_ret2
      exact ⟨⟨_, l, rfl, ho.out, h1.out, h2⟩, hb.out⟩
  · rw [if_neg (fun h => h0 h.1)] at hS
    subst hS
    have h0b : (R2 == 0) = false := beq_eq_false_iff_ne.mpr h0
    clear h0
    go_enter Tryz.func86, Tryz.ntmps86
    go_wp2_with fail
    refine (hcl.out).mono ?_
    rintro e w1 ⟨⟨v, l, rfl, ho, h1, h2⟩, hb⟩
    replace ho := Lib.hid ho
    replace hb := Lib.hid hb
    replace h1 := Lib.hid h1
    go_wp2
    go_ret2
    exact ⟨⟨_, l, rfl, ho.out, h1.out, h2⟩, hb.out⟩
theorem listsF_all {H : Sh.Hp} (f : Int) (hsm : H.length ≤ 3000 → ∀ p ∈ H, p.1.length ≤ 1000000 ∧ p.2.length ≤ 1000000) : ListsF H f := by
  intro h30 ty k hk root A c w hC
  have hbig := hsm h30
  have hb1 : ∀ p ∈ H, p.1.length ≤ 1000000 := fun p hp => (hbig p hp).1
  have nd : ∀ f : Int, Digital f → ¬ ¬ Digital f := fun f h h2 => h2 h
  rcases hk with ⟨rfl, rfl, rfl⟩ | ⟨rfl, rfl, rfl⟩ | ⟨rfl, rfl, rfl⟩ | ⟨rfl, rfl, rfl⟩ | ⟨rfl, rfl, rfl⟩
  · exact (alist_calls H root A c w hC.1 hb1).mono fun e w' h => ⟨h.1.x _, h.2⟩
  · exact (plist_calls H root A c w hC.1 hC.2 hbig).mono fun e w' h => ⟨h.1.weak (nd 2 (.inl rfl)), h.2⟩
  · exact (tlist_calls H root A c w hC.1).mono fun e w' h => ⟨h.1.x _, h.2⟩
  · exact (trlist_calls H root A c w hC.1 hC.2 hbig).mono fun e w' h => ⟨h.1.weak (nd 4 (.inr rfl)), h.2⟩
  · exact (hlist_calls H root A c w hC.1 hb1).mono fun e w' h => ⟨h.1.x _, h.2⟩
end WT
end Go.Proofs.YtbfedeedicnedaaGreat
end
section
namespace Go.Proofs.YtbfedeedicnedaaGreat
open Go.RowKit
open Go.Proofs.YtbfedeedicnedaaGreatW.PrintWords
namespace WT
theorem Join_bad1 {H : Sh.Hp} {fa ra na fb rb nb x : Int} {A : Option Addr} {c : Nat} {w : World} {l m : List Int} (hC : Nodes w A H) (hLa : ListsF H fa) {ea : Int} (ha : Sh.listed H fa ra na = (l, ea)) (he : ea ≠ 0) :
    Calls Tryz.prog 47 #[.slice A H.length c, shV fa ra na, .int .i64 x, shV fb rb nb] w fun e w' => Out3 w.heap.size w' e [] 0 0 0 ea ∧ Below w.heap.size w w' := by
  obtain ⟨W0, hW0⟩ : ∃ W0, W0 = ((w.alloc (.cells #[.int .i64 fa, .int .i64 ra, .int .i64 na] 25)).alloc (.cells #[.int .i64 fb, .int .i64 rb, .int .i64 nb] 25)).alloc (.cells #[.int .i64 0, .int .i64 0, .int .i64 0] 25) := ⟨_, rfl⟩
  have hsz := Lib.hid (show W0.heap.size = w.heap.size + 3 by rw [hW0, World.size_alloc, World.size_alloc, World.size_alloc])
  have b1 := Lib.hid (show W0.heap[w.heap.size]? = some (.cells #[.int .i64 fa, .int .i64 ra, .int .i64 na] 25 (0, 0)) by
    rw [hW0]
    exact blk_alloc (blk_alloc (heap_alloc_new w _) _) _)
  have b2 := Lib.hid (show W0.heap[w.heap.size + 1]? = some (.cells #[.int .i64 fb, .int .i64 rb, .int .i64 nb] 25 (0, 0)) by
    have := blk_alloc (heap_alloc_new (w.alloc (.cells #[.int .i64 fa, .int .i64 ra, .int .i64 na] 25)) (.cells #[.int .i64 fb, .int .i64 rb, .int .i64 nb] 25)) (.cells #[.int .i64 0, .int .i64 0, .int .i64 0] 25)
    rw [World.size_alloc] at this
    rw [hW0]
    exact this)
  have b3 := Lib.hid (show W0.heap[w.heap.size + 2]? = some (.cells #[.int .i64 0, .int .i64 0, .int .i64 0] 25 (0, 0)) by
    have := heap_alloc_new ((w.alloc (.cells #[.int .i64 fa, .int .i64 ra, .int .i64 na] 25)).alloc (.cells #[.int .i64 fb, .int .i64 rb, .int .i64 nb] 25)) (.cells #[.int .i64 0, .int .i64 0, .int .i64 0] 25)
    rw [World.size_alloc, World.size_alloc] at this
    rw [hW0]
    exact this)
  have hB0 := Lib.hid (show Below w.heap.size w W0 by
    rw [hW0]
    exact (((Below.refl _ _).alloc (Nat.le_refl _) _).alloc (by rw [World.size_alloc]; omega) _).alloc (by rw [World.size_alloc, World.size_alloc]; omega) _)
  have hBw := Lib.hid (fun W (hW : Below W0.heap.size W0 W) => (hB0.out.trans (hW.mono (by have := hsz.out; omega)) : Below w.heap.size w W))
  have hla := Lib.hid (fun W (hW : Below W0.heap.size W0 W) => by have := listed_calls H fa ra na A c W (Nodes.below hC (hBw.out W hW)) hLa; rw [ha] at this; exact this)
  have heb : (ea != 0) = true := bne_iff_ne.mpr he
  clear hC hLa ha he
  go_enter Tryz.func47, Tryz.ntmps47
  go_wp2_with fail
  rw [← hW0]
  clear hW0
  refine (hla.out _ (Below.refl _ _)).mono ?_
  rintro e w1 ⟨⟨v1, l1, rfl, o1, hx0, hx1⟩, hb1⟩
  have hB1 := Lib.hid hb1
  have hr9 := blk_below b3.out hb1
  have hf9 := blk_frozen hr9
  have c90 : w1.cell? ⟨w.heap.size + 2, 0, none⟩ = some (.int .i64 0) := by rw [blk_cell hr9]; rfl
  have c91 : w1.cell? ⟨w.heap.size + 2, 1, none⟩ = some (.int .i64 0) := by rw [blk_cell hr9]; rfl
  have c92 : w1.cell? ⟨w.heap.size + 2, 2, none⟩ = some (.int .i64 0) := by rw [blk_cell hr9]; rfl
  have hBf := Lib.hid (hBw.out _ hb1)
  replace hr9 := Lib.hid hr9
  clear hb1 o1 hx1 hx0
  go_wp2
  refine bodyPost_ret (results_tct rfl _ _ (w.heap.size + 2) #[.int .i64 0, .int .i64 0, .int .i64 0] rfl (load_set3 hr9.out)) rfl ?_
  exact ⟨⟨_, rfl, Kd.R_nil _ _ _ _ _⟩, below_set2 2 hBf.out _ _ _⟩
theorem Join_bad2 {H : Sh.Hp} {fa ra na fb rb nb x : Int} {A : Option Addr} {c : Nat} {w : World} {l m : List Int} (hC : Nodes w A H) (hLa : ListsF H fa) (hLb : ListsF H fb) {eb : Int} (ha : Sh.listed H fa ra na = (l, 0)) (hb : Sh.sought H fb rb nb x = (m, eb)) (he : eb ≠ 0) :
    Calls Tryz.prog 47 #[.slice A H.length c, shV fa ra na, .int .i64 x, shV fb rb nb] w fun e w' => Out3 w.heap.size w' e [] 0 0 0 eb ∧ Below w.heap.size w w' := by
  obtain ⟨W0, hW0⟩ : ∃ W0, W0 = ((w.alloc (.cells #[.int .i64 fa, .int .i64 ra, .int .i64 na] 25)).alloc (.cells #[.int .i64 fb, .int .i64 rb, .int .i64 nb] 25)).alloc (.cells #[.int .i64 0, .int .i64 0, .int .i64 0] 25) := ⟨_, rfl⟩
  have hsz := Lib.hid (show W0.heap.size = w.heap.size + 3 by rw [hW0, World.size_alloc, World.size_alloc, World.size_alloc])
  have b1 := Lib.hid (show W0.heap[w.heap.size]? = some (.cells #[.int .i64 fa, .int .i64 ra, .int .i64 na] 25 (0, 0)) by
    rw [hW0]
    exact blk_alloc (blk_alloc (heap_alloc_new w _) _) _)
  have b2 := Lib.hid (show W0.heap[w.heap.size + 1]? = some (.cells #[.int .i64 fb, .int .i64 rb, .int .i64 nb] 25 (0, 0)) by
    have := blk_alloc (heap_alloc_new (w.alloc (.cells #[.int .i64 fa, .int .i64 ra, .int .i64 na] 25)) (.cells #[.int .i64 fb, .int .i64 rb, .int .i64 nb] 25)) (.cells #[.int .i64 0, .int .i64 0, .int .i64 0] 25)
    rw [World.size_alloc] at this
    rw [hW0]
    exact this)
  have b3 := Lib.hid (show W0.heap[w.heap.size + 2]? = some (.cells #[.int .i64 0, .int .i64 0, .int .i64 0] 25 (0, 0)) by
    have := heap_alloc_new ((w.alloc (.cells #[.int .i64 fa, .int .i64 ra, .int .i64 na] 25)).alloc (.cells #[.int .i64 fb, .int .i64 rb, .int .i64 nb] 25)) (.cells #[.int .i64 0, .int .i64 0, .int .i64 0] 25)
    rw [World.size_alloc, World.size_alloc] at this
    rw [hW0]
    exact this)
  have hB0 := Lib.hid (show Below w.heap.size w W0 by
    rw [hW0]
    exact (((Below.refl _ _).alloc (Nat.le_refl _) _).alloc (by rw [World.size_alloc]; omega) _).alloc (by rw [World.size_alloc, World.size_alloc]; omega) _)
  have hBw := Lib.hid (fun W (hW : Below W0.heap.size W0 W) => (hB0.out.trans (hW.mono (by have := hsz.out; omega)) : Below w.heap.size w W))
  have hla := Lib.hid (fun W (hW : Below W0.heap.size W0 W) => by have := listed_calls H fa ra na A c W (Nodes.below hC (hBw.out W hW)) hLa; rw [ha] at this; exact this)
  have hlb := Lib.hid (fun W (hW : Below W0.heap.size W0 W) => by have := sought_calls H fb rb nb x A c W (Nodes.below hC (hBw.out W hW)) hLb; rw [hb] at this; exact this)
  have heb : (eb != 0) = true := bne_iff_ne.mpr he
  clear hC hLa hLb ha hb he
  go_enter Tryz.func47, Tryz.ntmps47
  go_wp2_with fail
  rw [← hW0]
  clear hW0
  refine (hla.out _ (Below.refl _ _)).mono ?_
  rintro e w1 ⟨⟨v1, l1, rfl, o1, hx0, hx1⟩, hb1⟩
  have hB1 := Lib.hid hb1
  have r6 : w1.cell? ⟨w.heap.size + 1, 0, none⟩ = some (.int .i64 fb) := by rw [blk_cell (blk_below b2.out hb1)]; rfl
  have r7 : w1.cell? ⟨w.heap.size + 1, 1, none⟩ = some (.int .i64 rb) := by rw [blk_cell (blk_below b2.out hb1)]; rfl
  have r8 : w1.cell? ⟨w.heap.size + 1, 2, none⟩ = some (.int .i64 nb) := by rw [blk_cell (blk_below b2.out hb1)]; rfl
  replace hx0 := Lib.hid hx0
  replace hx1 := Lib.hid hx1
  replace o1 := Lib.hid o1
  clear hb1
  go_wp2_with fail
  refine (hlb.out _ hB1.out).mono ?_
  rintro e w2 ⟨⟨v2, m1, rfl, o2, hy0, hy1⟩, hb2⟩
  have hB2 := hB1.out.trans (hb2.mono hB1.out.size)
  have o1' := Lib.hid (Kd.R_below o1.out hb2)
  have hr9 := blk_below b3.out hB2
  have hf9 := blk_frozen hr9
  have c90 : w2.cell? ⟨w.heap.size + 2, 0, none⟩ = some (.int .i64 0) := by rw [blk_cell hr9]; rfl
  have c91 : w2.cell? ⟨w.heap.size + 2, 1, none⟩ = some (.int .i64 0) := by rw [blk_cell hr9]; rfl
  have c92 : w2.cell? ⟨w.heap.size + 2, 2, none⟩ = some (.int .i64 0) := by rw [blk_cell hr9]; rfl
  have hBf := Lib.hid (hBw.out _ hB2)
  replace hr9 := Lib.hid hr9
  clear hb2 o2 hy0 hy1 r6 r7 r8 hB2 o1 o1'
  go_wp2
  refine bodyPost_ret (results_tct rfl _ _ (w.heap.size + 2) #[.int .i64 0, .int .i64 0, .int .i64 0] rfl (load_set3 hr9.out)) rfl ?_
  exact ⟨⟨_, rfl, Kd.R_nil _ _ _ _ _⟩, below_set2 2 hBf.out _ _ _⟩
theorem Join_bad3 {H : Sh.Hp} {fa ra na fb rb nb x : Int} {A : Option Addr} {c : Nat} {w : World} {l m : List Int} (hC : Nodes w A H) (hLa : ListsF H fa) (hLb : ListsF H fb) (ha : Sh.listed H fa ra na = (l, 0)) (hb : Sh.sought H fb rb nb x = (m, 0)) (he : fa ≠ 3 ∨ fb ≠ 3) :
    Calls Tryz.prog 47 #[.slice A H.length c, shV fa ra na, .int .i64 x, shV fb rb nb] w fun e w' => Out3 w.heap.size w' e [] 0 0 0 7 ∧ Below w.heap.size w w' := by
  obtain ⟨W0, hW0⟩ : ∃ W0, W0 = ((w.alloc (.cells #[.int .i64 fa, .int .i64 ra, .int .i64 na] 25)).alloc (.cells #[.int .i64 fb, .int .i64 rb, .int .i64 nb] 25)).alloc (.cells #[.int .i64 0, .int .i64 0, .int .i64 0] 25) := ⟨_, rfl⟩
  have hsz := Lib.hid (show W0.heap.size = w.heap.size + 3 by rw [hW0, World.size_alloc, World.size_alloc, World.size_alloc])
  have b1 := Lib.hid (show W0.heap[w.heap.size]? = some (.cells #[.int .i64 fa, .int .i64 ra, .int .i64 na] 25 (0, 0)) by
    rw [hW0]
    exact blk_alloc (blk_alloc (heap_alloc_new w _) _) _)
  have b2 := Lib.hid (show W0.heap[w.heap.size + 1]? = some (.cells #[.int .i64 fb, .int .i64 rb, .int .i64 nb] 25 (0, 0)) by
    have := blk_alloc (heap_alloc_new (w.alloc (.cells #[.int .i64 fa, .int .i64 ra, .int .i64 na] 25)) (.cells #[.int .i64 fb, .int .i64 rb, .int .i64 nb] 25)) (.cells #[.int .i64 0, .int .i64 0, .int .i64 0] 25)
    rw [World.size_alloc] at this
    rw [hW0]
    exact this)
  have b3 := Lib.hid (show W0.heap[w.heap.size + 2]? = some (.cells #[.int .i64 0, .int .i64 0, .int .i64 0] 25 (0, 0)) by
    have := heap_alloc_new ((w.alloc (.cells #[.int .i64 fa, .int .i64 ra, .int .i64 na] 25)).alloc (.cells #[.int .i64 fb, .int .i64 rb, .int .i64 nb] 25)) (.cells #[.int .i64 0, .int .i64 0, .int .i64 0] 25)
    rw [World.size_alloc, World.size_alloc] at this
    rw [hW0]
    exact this)
  have hB0 := Lib.hid (show Below w.heap.size w W0 by
    rw [hW0]
    exact (((Below.refl _ _).alloc (Nat.le_refl _) _).alloc (by rw [World.size_alloc]; omega) _).alloc (by rw [World.size_alloc, World.size_alloc]; omega) _)
  have hBw := Lib.hid (fun W (hW : Below W0.heap.size W0 W) => (hB0.out.trans (hW.mono (by have := hsz.out; omega)) : Below w.heap.size w W))
  have hla := Lib.hid (fun W (hW : Below W0.heap.size W0 W) => by have := listed_calls H fa ra na A c W (Nodes.below hC (hBw.out W hW)) hLa; rw [ha] at this; exact this)
  have hlb := Lib.hid (fun W (hW : Below W0.heap.size W0 W) => by have := sought_calls H fb rb nb x A c W (Nodes.below hC (hBw.out W hW)) hLb; rw [hb] at this; exact this)
  clear hC hLa hLb ha hb
  by_cases h3 : fa = 3
  · have h4 : fb ≠ 3 := by rcases he with h | h; exact absurd h3 h; exact h
    have h3b : (fa != 3) = false := bne_eq_false_iff_eq.mpr h3
    have h4b : (fb != 3) = true := bne_iff_ne.mpr h4
    clear h3 h4 he
    go_enter Tryz.func47, Tryz.ntmps47
    go_wp2_with fail
    rw [← hW0]
    clear hW0
    refine (hla.out _ (Below.refl _ _)).mono ?_
    rintro e w1 ⟨⟨v1, l1, rfl, o1, hx0, hx1⟩, hb1⟩
    have hB1 := Lib.hid hb1
    have r6 : w1.cell? ⟨w.heap.size + 1, 0, none⟩ = some (.int .i64 fb) := by rw [blk_cell (blk_below b2.out hb1)]; rfl
    have r7 : w1.cell? ⟨w.heap.size + 1, 1, none⟩ = some (.int .i64 rb) := by rw [blk_cell (blk_below b2.out hb1)]; rfl
    have r8 : w1.cell? ⟨w.heap.size + 1, 2, none⟩ = some (.int .i64 nb) := by rw [blk_cell (blk_below b2.out hb1)]; rfl
    replace hx0 := Lib.hid hx0
    replace hx1 := Lib.hid hx1
    replace o1 := Lib.hid o1
    clear hb1
    go_wp2_with fail
    refine (hlb.out _ hB1.out).mono ?_
    rintro e w2 ⟨⟨v2, m1, rfl, o2, hy0, hy1⟩, hb2⟩
    have hB2 := hB1.out.trans (hb2.mono hB1.out.size)
    have o1' := Lib.hid (Kd.R_below o1.out hb2)
    have hr9 := blk_below b3.out hB2
    have hf9 := blk_frozen hr9
    have c90 : w2.cell? ⟨w.heap.size + 2, 0, none⟩ = some (.int .i64 0) := by rw [blk_cell hr9]; rfl
    have c91 : w2.cell? ⟨w.heap.size + 2, 1, none⟩ = some (.int .i64 0) := by rw [blk_cell hr9]; rfl
    have c92 : w2.cell? ⟨w.heap.size + 2, 2, none⟩ = some (.int .i64 0) := by rw [blk_cell hr9]; rfl
    have hBf := Lib.hid (hBw.out _ hB2)
    replace hr9 := Lib.hid hr9
    have s1 : w2.cell? ⟨w.heap.size, 0, none⟩ = some (.int .i64 fa) := by rw [blk_cell (blk_below b1.out hB2)]; rfl
    have s2 : w2.cell? ⟨w.heap.size + 1, 0, none⟩ = some (.int .i64 fb) := by rw [blk_cell (blk_below b2.out hB2)]; rfl
    clear hb2 o2 hy0 hy1 r6 r7 r8 hB2 o1 o1'
    go_wp2
    refine bodyPost_ret (results_tct rfl _ _ (w.heap.size + 2) #[.int .i64 0, .int .i64 0, .int .i64 0] rfl (load_set3 hr9.out)) rfl ?_
    exact ⟨⟨_, rfl, Kd.R_nil _ _ _ _ _⟩, below_set2 2 hBf.out _ _ _⟩
  · have h3b : (fa != 3) = true := bne_iff_ne.mpr h3
    clear h3 he
    go_enter Tryz.func47, Tryz.ntmps47
    go_wp2_with fail
    rw [← hW0]
    clear hW0
    refine (hla.out _ (Below.refl _ _)).mono ?_
    rintro e w1 ⟨⟨v1, l1, rfl, o1, hx0, hx1⟩, hb1⟩
    have hB1 := Lib.hid hb1
    have r6 : w1.cell? ⟨w.heap.size + 1, 0, none⟩ = some (.int .i64 fb) := by rw [blk_cell (blk_below b2.out hb1)]; rfl
    have r7 : w1.cell? ⟨w.heap.size + 1, 1, none⟩ = some (.int .i64 rb) := by rw [blk_cell (blk_below b2.out hb1)]; rfl
    have r8 : w1.cell? ⟨w.heap.size + 1, 2, none⟩ = some (.int .i64 nb) := by rw [blk_cell (blk_below b2.out hb1)]; rfl
    replace hx0 := Lib.hid hx0
    replace hx1 := Lib.hid hx1
    replace o1 := Lib.hid o1
    clear hb1
    go_wp2_with fail
    refine (hlb.out _ hB1.out).mono ?_
    rintro e w2 ⟨⟨v2, m1, rfl, o2, hy0, hy1⟩, hb2⟩
    have hB2 := hB1.out.trans (hb2.mono hB1.out.size)
    have o1' := Lib.hid (Kd.R_below o1.out hb2)
    have hr9 := blk_below b3.out hB2
    have hf9 := blk_frozen hr9
    have c90 : w2.cell? ⟨w.heap.size + 2, 0, none⟩ = some (.int .i64 0) := by rw [blk_cell hr9]; rfl
    have c91 : w2.cell? ⟨w.heap.size + 2, 1, none⟩ = some (.int .i64 0) := by rw [blk_cell hr9]; rfl
    have c92 : w2.cell? ⟨w.heap.size + 2, 2, none⟩ = some (.int .i64 0) := by rw [blk_cell hr9]; rfl
    have hBf := Lib.hid (hBw.out _ hB2)
    replace hr9 := Lib.hid hr9
    have s1 : w2.cell? ⟨w.heap.size, 0, none⟩ = some (.int .i64 fa) := by rw [blk_cell (blk_below b1.out hB2)]; rfl
    have s2 : w2.cell? ⟨w.heap.size + 1, 0, none⟩ = some (.int .i64 fb) := by rw [blk_cell (blk_below b2.out hB2)]; rfl
    clear hb2 o2 hy0 hy1 r6 r7 r8 hB2 o1 o1'
    go_wp2
    refine bodyPost_ret (results_tct rfl _ _ (w.heap.size + 2) #[.int .i64 0, .int .i64 0, .int .i64 0] rfl (load_set3 hr9.out)) rfl ?_
    exact ⟨⟨_, rfl, Kd.R_nil _ _ _ _ _⟩, below_set2 2 hBf.out _ _ _⟩
end WT
end Go.Proofs.YtbfedeedicnedaaGreat
end
section
namespace Go.Proofs.YtbfedeedicnedaaGreat
open Go.RowKit
open Go.Proofs.YtbfedeedicnedaaGreatW.PrintWords
theorem shape_cells {W0 W : World} {g : Nat} {f root n : Int} (h : W0.heap[g]? = some (.cells #[.int .i64 f, .int .i64 root, .int .i64 n] 25 (0, 0))) (hW : Below W0.heap.size W0 W) :
    W.cell? ⟨g, 0, none⟩ = some (.int .i64 f) ∧ W.cell? ⟨g, 1, none⟩ = some (.int .i64 root) ∧ W.cell? ⟨g, 2, none⟩ = some (.int .i64 n) := by
  have hr := blk_below h hW
  exact ⟨by rw [blk_cell hr]; rfl, by rw [blk_cell hr]; rfl, by rw [blk_cell hr]; rfl⟩
end Go.Proofs.YtbfedeedicnedaaGreat
end
section
namespace Go.Proofs.YtbfedeedicnedaaGreat
open Go.RowKit
open Go.Proofs.YtbfedeedicnedaaGreatW.PrintWords
theorem two_shapes (w : World) (f r n f' r' n' : Int) :
    Below w.heap.size w ((w.alloc (.cells #[.int .i64 f, .int .i64 r, .int .i64 n] 25)).alloc (.cells #[.int .i64 f', .int .i64 r', .int .i64 n'] 25)) ∧
    ((w.alloc (.cells #[.int .i64 f, .int .i64 r, .int .i64 n] 25)).alloc (.cells #[.int .i64 f', .int .i64 r', .int .i64 n'] 25)).heap[w.heap.size]? = some (.cells #[.int .i64 f, .int .i64 r, .int .i64 n] 25 (0, 0)) ∧
    ((w.alloc (.cells #[.int .i64 f, .int .i64 r, .int .i64 n] 25)).alloc (.cells #[.int .i64 f', .int .i64 r', .int .i64 n'] 25)).heap[w.heap.size + 1]? = some (.cells #[.int .i64 f', .int .i64 r', .int .i64 n'] 25 (0, 0)) := by
  refine ⟨((Below.refl _ _).alloc (Nat.le_refl _) _).alloc (by rw [World.size_alloc]; omega) _, blk_alloc (heap_alloc_new w _) _, ?_⟩
  have := heap_alloc_new (w.alloc (.cells #[.int .i64 f, .int .i64 r, .int .i64 n] 25)) (.cells #[.int .i64 f', .int .i64 r', .int .i64 n'] 25)
  rw [World.size_alloc] at this
  exact this
def Sh.both (H : Sh.Hp) (fa ra na fb rb nb : Int) : Int := if (Sh.listed H fa ra na).2 = 0 then (Sh.listed H fb rb nb).2 else (Sh.listed H fa ra na).2
theorem both_calls (H : Sh.Hp) (fa ra na fb rb nb : Int) (A : Option Addr) (c : Nat) (w : World) (hC : Nodes w A H) (hc : H.length ≤ c) (hl : H.length ≤ 1000000) (hbig : Small H) :
    Calls Tryz.prog 21 #[.slice A H.length c, shV fa ra na, shV fb rb nb] w fun e w' => e = .returned (.int .i64 (Sh.both H fa ra na fb rb nb)) ∧ Below w.heap.size w w' := by
  obtain ⟨W0, hW0⟩ : ∃ W0, W0 = (w.alloc (.cells #[.int .i64 fa, .int .i64 ra, .int .i64 na] 25)).alloc (.cells #[.int .i64 fb, .int .i64 rb, .int .i64 nb] 25) := ⟨_, rfl⟩
  obtain ⟨hB, h1, h2⟩ := two_shapes w fa ra na fb rb nb
  have hB0 := Lib.hid hB
  have hX1 := Lib.hid h1
  have hX2 := Lib.hid h2
  clear hB h1 h2
  rw [← hW0] at hB0 hX1 hX2
  have hBw := Lib.hid (fun W (hW : Below W0.heap.size W0 W) => (below_step hB0.out hW : Below w.heap.size w W))
  have hca := Lib.hid (fun W (hW : Below W0.heap.size W0 W) => rcheck_calls H fa ra na A c W (Kd.C_below hC (hBw.out W hW)) hc hl hbig)
  have hcb := Lib.hid (fun W (hW : Below W0.heap.size W0 W) => rcheck_calls H fb rb nb A c W (Kd.C_below hC (hBw.out W hW)) hc hl hbig)
  unfold Sh.both
  generalize (Sh.listed H fa ra na).2 = ea at *
  generalize (Sh.listed H fb rb nb).2 = eb at *
  obtain ⟨c0, c1, c2⟩ := shape_cells hX1.out (Below.refl W0.heap.size W0)
  rw [hW0] at c0 c1 c2
  clear hC
  by_cases h0 : ea = 0
  · subst h0
    rw [if_pos rfl]
    go_enter Tryz.func21, Tryz.ntmps21
    go_wp2_with fail
    rw [← hW0]
    rw [← hW0] at c0 c1 c2
    clear hW0
    refine (hca.out _ (Below.refl _ _)).mono ?_
    rintro e w1 ⟨rfl, hb⟩
    obtain ⟨d0, d1, d2⟩ := shape_cells hX2.out hb
    have hB1 := Lib.hid hb
    clear hb c0 c1 c2
    go_wp2_with fail
    refine (hcb.out _ hB1.out).mono ?_
    rintro e w2 ⟨rfl, hb⟩
    have hB2 := Lib.hid (hBw.out _ (below_step hB1.out hb))
    clear hb
    go_wp2
    go_ret
    exact ⟨rfl, hB2.out⟩
  · rw [if_neg h0]
    have h0b : (ea == 0) = false := beq_eq_false_iff_ne.mpr h0
    clear h0
    go_enter Tryz.func21, Tryz.ntmps21
    go_wp2_with fail
    rw [← hW0]
    rw [← hW0] at c0 c1 c2
    clear hW0
    refine (hca.out _ (Below.refl _ _)).mono ?_
    rintro e w1 ⟨rfl, hb⟩
    have hB2 := Lib.hid (hBw.out _ hb)
    clear hb c0 c1 c2
    go_wp2
    go_ret
    exact ⟨rfl, hB2.out⟩
end Go.Proofs.YtbfedeedicnedaaGreat
end
section
namespace Go.Proofs.YtbfedeedicnedaaGreat
open Go.RowKit
open Go.Proofs.YtbfedeedicnedaaGreatW.PrintWords
theorem relems_of {H : Sh.Hp} {f root n : Int} {l : List Int} {A : Option Addr} {c : Nat} {w : World} (hC : Nodes w A H) (hc : H.length ≤ c) (hl : H.length ≤ 1000000) (hbig : Small H) (h3 : H.length ≤ 3000) (hel : Sh.elems H f root n = some l) :
    Calls Tryz.prog 23 #[.slice A H.length c, shV f root n] w fun e w' => (∃ A1 c1, e = .returned (.tuple #[.slice A1 l.length c1, .bool true]) ∧ l.length ≤ c1 ∧ Kd.C kI w' A1 l.length l) ∧ Below w.heap.size w w' := by
  have := relements_calls H f root n A c w hC hc hl (fun ht => (hbig h3 _ (List.mem_of_getElem? (Sh.nd_there ht))).1)
  rw [hel] at this
  refine this.mono ?_
  rintro e w' ⟨⟨A1, c1, l', rfl, h1, h2, hm⟩, hb⟩
  obtain rfl := hm l rfl
  exact ⟨⟨A1, c1, rfl, h1, h2⟩, hb⟩
def Sh.lastB (l : List Int) (x : Int) : Bool := l.isEmpty || decide (Sh.gi l (l.length - 1) < x)
def Sh.firstB (l : List Int) (x : Int) : Bool := l.isEmpty || decide (x < Sh.gi l 0)
theorem joined_err (H : Sh.Hp) (fa ra na fb rb nb x : Int) (A : Option Addr) (c : Nat) (w : World) (hC : Nodes w A H) (hc : H.length ≤ c) (hl : H.length ≤ 1000000) (hbig : Small H) {e0 : Int} (he : Sh.both H fa ra na fb rb nb = e0) (he0 : e0 ≠ 0) :
    Calls Tryz.prog 48 #[.slice A H.length c, shV fa ra na, .int .i64 x, shV fb rb nb] w fun e w' => e = .returned (.int .i64 e0) ∧ Below w.heap.size w w' := by
  obtain ⟨W0, hW0⟩ : ∃ W0, W0 = (w.alloc (.cells #[.int .i64 fa, .int .i64 ra, .int .i64 na] 25)).alloc (.cells #[.int .i64 fb, .int .i64 rb, .int .i64 nb] 25) := ⟨_, rfl⟩
  obtain ⟨hB, h1, h2⟩ := two_shapes w fa ra na fb rb nb
  have hB0 := Lib.hid hB
  have hX1 := Lib.hid h1
  have hX2 := Lib.hid h2
  clear hB h1 h2
  rw [← hW0] at hB0 hX1 hX2
  have hBw := Lib.hid (fun W (hW : Below W0.heap.size W0 W) => (below_step hB0.out hW : Below w.heap.size w W))
  have hbo := Lib.hid (fun W (hW : Below W0.heap.size W0 W) => by have := both_calls H fa ra na fb rb nb A c W (Kd.C_below hC (hBw.out W hW)) hc hl hbig; rw [he] at this; exact this)
  have heq : (e0 == 0) = false := beq_eq_false_iff_ne.mpr he0
  have hne : (e0 != 0) = true := bne_iff_ne.mpr he0
  obtain ⟨c0, c1, c2⟩ := shape_cells hX1.out (Below.refl W0.heap.size W0)
  obtain ⟨d0, d1, d2⟩ := shape_cells hX2.out (Below.refl W0.heap.size W0)
  rw [hW0] at c0 c1 c2 d0 d1 d2
  clear hC he
  go_enter Tryz.func48, Tryz.ntmps48
  go_wp2_with fail
  rw [← hW0]
  rw [← hW0] at c0 c1 c2 d0 d1 d2
  clear hW0
  refine (hbo.out _ (Below.refl _ _)).mono ?_
  rintro e w1 ⟨rfl, hb⟩
  have hB1 := Lib.hid hb
  obtain ⟨q0, q1, q2⟩ := shape_cells hX1.out hB1.out
  obtain ⟨r0, r1, r2⟩ := shape_cells hX2.out hB1.out
  clear hb c0 c1 c2 d0 d1 d2
  have hBe := Lib.hid (hBw.out _ hB1.out)
  go_wp2
  go_ret
  exact ⟨rfl, hBe.out⟩
theorem joined_out (H : Sh.Hp) (fa ra na fb rb nb x : Int) (A : Option Addr) (c : Nat) (w : World) (hC : Nodes w A H) (hc : H.length ≤ c) (hl : H.length ≤ 1000000) (hbig : Small H) (he : Sh.both H fa ra na fb rb nb = 0) (hx : Sh.el x = false) :
    Calls Tryz.prog 48 #[.slice A H.length c, shV fa ra na, .int .i64 x, shV fb rb nb] w fun e w' => e = .returned (.int .i64 2) ∧ Below w.heap.size w w' := by
  obtain ⟨W0, hW0⟩ : ∃ W0, W0 = (w.alloc (.cells #[.int .i64 fa, .int .i64 ra, .int .i64 na] 25)).alloc (.cells #[.int .i64 fb, .int .i64 rb, .int .i64 nb] 25) := ⟨_, rfl⟩
  obtain ⟨hB, h1, h2⟩ := two_shapes w fa ra na fb rb nb
  have hB0 := Lib.hid hB
  have hX1 := Lib.hid h1
  have hX2 := Lib.hid h2
  clear hB h1 h2
  rw [← hW0] at hB0 hX1 hX2
  have hBw := Lib.hid (fun W (hW : Below W0.heap.size W0 W) => (below_step hB0.out hW : Below w.heap.size w W))
  have hbo := Lib.hid (fun W (hW : Below W0.heap.size W0 W) => by have := both_calls H fa ra na fb rb nb A c W (Kd.C_below hC (hBw.out W hW)) hc hl hbig; rw [he] at this; exact this)
  have hin := Lib.hid (fun W => in_calls x 0 1023 (b := false) hx W)
  obtain ⟨c0, c1, c2⟩ := shape_cells hX1.out (Below.refl W0.heap.size W0)
  obtain ⟨d0, d1, d2⟩ := shape_cells hX2.out (Below.refl W0.heap.size W0)
  rw [hW0] at c0 c1 c2 d0 d1 d2
  clear hC he
  go_enter Tryz.func48, Tryz.ntmps48
  go_wp2_with fail
  rw [← hW0]
  rw [← hW0] at c0 c1 c2 d0 d1 d2
  clear hW0
  refine (hbo.out _ (Below.refl _ _)).mono ?_
  rintro e w1 ⟨rfl, hb⟩
  have hB1 := Lib.hid hb
  obtain ⟨q0, q1, q2⟩ := shape_cells hX1.out hB1.out
  obtain ⟨r0, r1, r2⟩ := shape_cells hX2.out hB1.out
  clear hb c0 c1 c2 d0 d1 d2
  go_wp2_with fail
  refine (hin.out _).mono ?_
  rintro e w2 ⟨rfl, rfl⟩
  have hBe := Lib.hid (hBw.out _ hB1.out)
  go_wp2
  go_ret
  exact ⟨rfl, hBe.out⟩
theorem joined_rule1 (H : Sh.Hp) (fa ra na fb rb nb x : Int) (A : Option Addr) (c : Nat) (w : World) (hC : Nodes w A H) (hc : H.length ≤ c) (hl : H.length ≤ 1000000) (hbig : Small H) (he : Sh.both H fa ra na fb rb nb = 0) (hx : Sh.el x = true) (h3 : H.length ≤ 3000) {l m : List Int} (hla : Sh.elems H fa ra na = some l) (hlb : Sh.elems H fb rb nb = some m) (hf : fa ≠ 3) :
    Calls Tryz.prog 48 #[.slice A H.length c, shV fa ra na, .int .i64 x, shV fb rb nb] w fun e w' => e = .returned (.int .i64 7) ∧ Below w.heap.size w w' := by
  obtain ⟨W0, hW0⟩ : ∃ W0, W0 = (w.alloc (.cells #[.int .i64 fa, .int .i64 ra, .int .i64 na] 25)).alloc (.cells #[.int .i64 fb, .int .i64 rb, .int .i64 nb] 25) := ⟨_, rfl⟩
  obtain ⟨hB, h1, h2⟩ := two_shapes w fa ra na fb rb nb
  have hB0 := Lib.hid hB
  have hX1 := Lib.hid h1
  have hX2 := Lib.hid h2
  clear hB h1 h2
  rw [← hW0] at hB0 hX1 hX2
  have hBw := Lib.hid (fun W (hW : Below W0.heap.size W0 W) => (below_step hB0.out hW : Below w.heap.size w W))
  have hbo := Lib.hid (fun W (hW : Below W0.heap.size W0 W) => by have := both_calls H fa ra na fb rb nb A c W (Kd.C_below hC (hBw.out W hW)) hc hl hbig; rw [he] at this; exact this)
  have hin := Lib.hid (fun W => in_calls x 0 1023 (b := true) hx W)
  have hfb : (fa != 3) = true := bne_iff_ne.mpr hf
  have hea := Lib.hid (fun W (hW : Below W0.heap.size W0 W) => relems_of (c := c) (Kd.C_below hC (hBw.out W hW)) hc hl hbig h3 hla)
  have heb := Lib.hid (fun W (hW : Below W0.heap.size W0 W) => relems_of (c := c) (Kd.C_below hC (hBw.out W hW)) hc hl hbig h3 hlb)
  generalize l.length = p at *
  generalize m.length = q at *
  obtain ⟨c0, c1, c2⟩ := shape_cells hX1.out (Below.refl W0.heap.size W0)
  obtain ⟨d0, d1, d2⟩ := shape_cells hX2.out (Below.refl W0.heap.size W0)
  rw [hW0] at c0 c1 c2 d0 d1 d2
  clear hC he
  go_enter Tryz.func48, Tryz.ntmps48
  go_wp2_with fail
  rw [← hW0]
  rw [← hW0] at c0 c1 c2 d0 d1 d2
  clear hW0
  refine (hbo.out _ (Below.refl _ _)).mono ?_
  rintro e w1 ⟨rfl, hb⟩
  have hB1 := Lib.hid hb
  obtain ⟨q0, q1, q2⟩ := shape_cells hX1.out hB1.out
  obtain ⟨r0, r1, r2⟩ := shape_cells hX2.out hB1.out
  clear hb c0 c1 c2 d0 d1 d2
  go_wp2_with fail
  refine (hin.out _).mono ?_
  rintro e w2 ⟨rfl, rfl⟩
  go_wp2_with fail
  refine (hea.out _ hB1.out).mono ?_
  rintro e w3 ⟨⟨A5, c5, rfl, hc5, hC5⟩, hb⟩
  have hB2 := Lib.hid (below_step hB1.out hb)
  obtain ⟨s0, s1, s2⟩ := shape_cells hX2.out hB2.out
  replace hc5 := Lib.hid hc5
  replace hC5 := Lib.hid hC5
  clear hb q0 q1 q2 r0 r1 r2
  go_wp2_with fail
  refine (heb.out _ hB2.out).mono ?_
  rintro e w4 ⟨⟨A6, c6, rfl, hc6, hC6⟩, hb⟩
  have hB3 := Lib.hid (below_step hB2.out hb)
  obtain ⟨u0, u1, u2⟩ := shape_cells hX1.out hB3.out
  obtain ⟨v0, v1, v2⟩ := shape_cells hX2.out hB3.out
  replace hC5 := Lib.hid (Kd.C_below hC5.out hb)
  replace hc6 := Lib.hid hc6
  replace hC6 := Lib.hid hC6
  clear hb s0 s1 s2
  have hBe := Lib.hid (hBw.out _ hB3.out)
  go_wp2
  go_ret
  exact ⟨rfl, hBe.out⟩
theorem joined_rule2 (H : Sh.Hp) (fa ra na fb rb nb x : Int) (A : Option Addr) (c : Nat) (w : World) (hC : Nodes w A H) (hc : H.length ≤ c) (hl : H.length ≤ 1000000) (hbig : Small H) (he : Sh.both H fa ra na fb rb nb = 0) (hx : Sh.el x = true) (h3 : H.length ≤ 3000) {l m : List Int} (hla : Sh.elems H fa ra na = some l) (hlb : Sh.elems H fb rb nb = some m) (hfa : fa = 3) (hf : fb ≠ 3) :
    Calls Tryz.prog 48 #[.slice A H.length c, shV fa ra na, .int .i64 x, shV fb rb nb] w fun e w' => e = .returned (.int .i64 7) ∧ Below w.heap.size w w' := by
  obtain ⟨W0, hW0⟩ : ∃ W0, W0 = (w.alloc (.cells #[.int .i64 fa, .int .i64 ra, .int .i64 na] 25)).alloc (.cells #[.int .i64 fb, .int .i64 rb, .int .i64 nb] 25) := ⟨_, rfl⟩
  obtain ⟨hB, h1, h2⟩ := two_shapes w fa ra na fb rb nb
  have hB0 := Lib.hid hB
  have hX1 := Lib.hid h1
  have hX2 := Lib.hid h2
  clear hB h1 h2
  rw [← hW0] at hB0 hX1 hX2
  have hBw := Lib.hid (fun W (hW : Below W0.heap.size W0 W) => (below_step hB0.out hW : Below w.heap.size w W))
  have hbo := Lib.hid (fun W (hW : Below W0.heap.size W0 W) => by have := both_calls H fa ra na fb rb nb A c W (Kd.C_below hC (hBw.out W hW)) hc hl hbig; rw [he] at this; exact this)
  subst hfa
  have hin := Lib.hid (fun W => in_calls x 0 1023 (b := true) hx W)
  have hfb : (fb != 3) = true := bne_iff_ne.mpr hf
  have hea := Lib.hid (fun W (hW : Below W0.heap.size W0 W) => relems_of (c := c) (Kd.C_below hC (hBw.out W hW)) hc hl hbig h3 hla)
  have heb := Lib.hid (fun W (hW : Below W0.heap.size W0 W) => relems_of (c := c) (Kd.C_below hC (hBw.out W hW)) hc hl hbig h3 hlb)
  generalize l.length = p at *
  generalize m.length = q at *
  obtain ⟨c0, c1, c2⟩ := shape_cells hX1.out (Below.refl W0.heap.size W0)
  obtain ⟨d0, d1, d2⟩ := shape_cells hX2.out (Below.refl W0.heap.size W0)
  rw [hW0] at c0 c1 c2 d0 d1 d2
  clear hC he
  go_enter Tryz.func48, Tryz.ntmps48
  go_wp2_with fail
  rw [← hW0]
  rw [← hW0] at c0 c1 c2 d0 d1 d2
  clear hW0
  refine (hbo.out _ (Below.refl _ _)).mono ?_
  rintro e w1 ⟨rfl, hb⟩
  have hB1 := Lib.hid hb
  obtain ⟨q0, q1, q2⟩ := shape_cells hX1.out hB1.out
  obtain ⟨r0, r1, r2⟩ := shape_cells hX2.out hB1.out
  clear hb c0 c1 c2 d0 d1 d2
  go_wp2_with fail
  refine (hin.out _).mono ?_
  rintro e w2 ⟨rfl, rfl⟩
  go_wp2_with fail
  refine (hea.out _ hB1.out).mono ?_
  rintro e w3 ⟨⟨A5, c5, rfl, hc5, hC5⟩, hb⟩
  have hB2 := Lib.hid (below_step hB1.out hb)
  obtain ⟨s0, s1, s2⟩ := shape_cells hX2.out hB2.out
  replace hc5 := Lib.hid hc5
  replace hC5 := Lib.hid hC5
  clear hb q0 q1 q2 r0 r1 r2
  go_wp2_with fail
  refine (heb.out _ hB2.out).mono ?_
  rintro e w4 ⟨⟨A6, c6, rfl, hc6, hC6⟩, hb⟩
  have hB3 := Lib.hid (below_step hB2.out hb)
  obtain ⟨u0, u1, u2⟩ := shape_cells hX1.out hB3.out
  obtain ⟨v0, v1, v2⟩ := shape_cells hX2.out hB3.out
  replace hC5 := Lib.hid (Kd.C_below hC5.out hb)
  replace hc6 := Lib.hid hc6
  replace hC6 := Lib.hid hC6
  clear hb s0 s1 s2
  have hBe := Lib.hid (hBw.out _ hB3.out)
  go_wp2
  go_ret
  exact ⟨rfl, hBe.out⟩
end Go.Proofs.YtbfedeedicnedaaGreat
end
