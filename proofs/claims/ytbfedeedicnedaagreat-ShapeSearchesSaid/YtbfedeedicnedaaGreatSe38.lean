/-
  Texts of this claim: ShSe, ShSd, ShSv, ShRg.
-/
import Derived.Test.YtbfedeedicnedaaGreatSe20
import Derived.Test.YtbfedeedicnedaaGreatSe37
set_option linter.unusedVariables false
set_option linter.unusedSimpArgs false
section
namespace Go.Proofs.YtbfedeedicnedaaGreat
open Go.RowKit
open Go.Proofs.YtbfedeedicnedaaGreatW.PrintWords
set_option maxRecDepth 100000 in
set_option maxHeartbeats 4000000 in
theorem searches_works (hwk : Works) (H : Sh.Hp) (f root n x : Int) (A : Option Addr) (c : Nat) (w : World) (hC : Nodes w A H) (hc : H.length ≤ c) (hb : Sh.largeB H = true) :
    Calls Tryz.prog 4 #[.slice A H.length c, shV f root n, .int .i64 x] w fun e w' => e = .returned (.bool true) ∧ Below w.heap.size w w' := by
  have hwh := Lib.hid hwk
  have hB0 := Lib.hid (shape_box w f root n)
  have hlg := Lib.hid (large_calls H A c _ (Kd.C_below hC hB0.out) hc hb)
  clear hC hb hwk
  go_enter Tryz.func4, Tryz.ntmps4
  go_wp2_with fail
  refine (hlg.out).mono ?_
  rintro e w1 ⟨rfl, hd⟩
  have hB := Lib.hid (below_step hB0.out hd.below)
  clear hd
  go_wp2_with fail
  refine (hwh.out _).mono ?_
  rintro e w2 ⟨rfl, hb⟩
  have hB2 := Lib.hid (below_step hB.out hb)
  clear hb
  go_wp2
  go_ret
  exact ⟨rfl, hB2.out⟩
set_option maxRecDepth 100000 in
set_option maxHeartbeats 4000000 in
theorem searches_err (hwk : Works) (H : Sh.Hp) (f root n x : Int) (A : Option Addr) (c : Nat) (w : World) (hC : Nodes w A H) (hc : H.length ≤ c) (hb : Sh.largeB H = false)
    {e0 : Int} (he : (Sh.sought H f root n x).2 = e0) (he0 : e0 ≠ 0)
    (hsp : ∀ W, Below w.heap.size w W → Calls Tryz.prog 27 #[.slice A H.length c, shV f root n, .int .i64 x] W fun e w' => e = .returned (.tuple #[.int .i64 0, .int .i64 e0]) ∧ Below W.heap.size W w') :
    Calls Tryz.prog 4 #[.slice A H.length c, shV f root n, .int .i64 x] w fun e w' => e = .returned (.bool true) ∧ Below w.heap.size w w' := by
  have hwh := Lib.hid hwk
  have hsm := Sh.largeB_small hb
  have hbig : Small H := fun h p hp => ⟨by have := ((hsm.2 h).2 p hp).1; omega, by have := ((hsm.2 h).2 p hp).2; omega⟩
  obtain ⟨W0, hW0⟩ : ∃ W0, W0 = w.alloc (.cells #[.int .i64 f, .int .i64 root, .int .i64 n] 25) := ⟨_, rfl⟩
  have hB0 := Lib.hid (shape_box w f root n)
  have hX0 := Lib.hid (shape_new w f root n)
  rw [← hW0] at hB0 hX0
  have hBw := Lib.hid (fun W (hW : Below W0.heap.size W0 W) => (below_step hB0.out hW : Below w.heap.size w W))
  have hlg := Lib.hid (large_calls H A c W0 (Kd.C_below hC hB0.out) hc hb)
  have hrc := Lib.hid (fun W (hW : Below W0.heap.size W0 W) => by have := rasked_calls H f root n x A c W (Kd.C_below hC (hBw.out W hW)) hc (by omega) hbig; rw [he] at this; exact this)
  have hsh := Lib.hid (fun W (hW : Below W0.heap.size W0 W) => hsp W (hBw.out W hW))
  have heb : (e0 != e0) = false := by simp
  have he1 : (e0 != 0) = true := bne_iff_ne.mpr he0
  clear hC hb hwk he he0 hsm hbig hsp
  go_enter Tryz.func4, Tryz.ntmps4
  go_wp2_with fail
  rw [← hW0]
  clear hW0
  refine (hlg.out).mono ?_
  rintro e w1 ⟨rfl, hd⟩
  have hB1 := Lib.hid hd.below
  obtain ⟨c0, c1, c2⟩ := shape_cells hX0.out hB1.out
  clear hd
  go_wp2_with fail
  refine (hsh.out _ hB1.out).mono ?_
  rintro e w2 ⟨rfl, hb⟩
  have hB2 := Lib.hid (below_step hB1.out hb)
  obtain ⟨d0, d1, d2⟩ := shape_cells hX0.out hB2.out
  clear hb c0 c1 c2
  go_wp2_with fail
  refine (hrc.out _ hB2.out).mono ?_
  rintro e w3 ⟨rfl, hb⟩
  have hB3 := Lib.hid (below_step hB2.out hb)
  clear hb d0 d1 d2
  go_wp2_with fail
  refine (hwh.out _).mono ?_
  rintro e w4 ⟨rfl, hb⟩
  have hB4 := Lib.hid (below_step hB3.out hb)
  clear hb
  go_wp2
  go_ret
  exact ⟨rfl, hBw.out _ hB4.out⟩
def mostI (f n : Int) : Int := if f = 1 then 11 else if f = 2 then 2 else if f = 3 then 14 else if f = 4 then 5 else n + 1
set_option maxRecDepth 100000 in
set_option maxHeartbeats 4000000 in
theorem searches_good (hwk : Works) (H : Sh.Hp) (f root n x : Int) (hf : f = 1 ∨ f = 2 ∨ f = 3 ∨ f = 4 ∨ f = 5) (hn : f = 5 → 0 ≤ n ∧ n ≤ 1000000) (A : Option Addr) (c : Nat) (w : World) (hC : Nodes w A H) (hc : H.length ≤ c) (hb : Sh.largeB H = false)
    {N : Int} (he : (Sh.sought H f root n x).2 = 0) (hN : N ≤ mostI f n)
    (hsp : ∀ W, Below w.heap.size w W → Calls Tryz.prog 27 #[.slice A H.length c, shV f root n, .int .i64 x] W fun e w' => e = .returned (.tuple #[.int .i64 N, .int .i64 0]) ∧ Below W.heap.size W w')
    (hrs : ∀ W, Below w.heap.size w W → Calls Tryz.prog 28 #[.slice A H.length c, shV f root n, .int .i64 x] W fun e w' => e = .returned (.int .i64 N) ∧ Below W.heap.size W w') :
    Calls Tryz.prog 4 #[.slice A H.length c, shV f root n, .int .i64 x] w fun e w' => e = .returned (.bool true) ∧ Below w.heap.size w w' := by
  have hwh := Lib.hid hwk
  have hsm := Sh.largeB_small hb
  have hbig : Small H := fun h p hp => ⟨by have := ((hsm.2 h).2 p hp).1; omega, by have := ((hsm.2 h).2 p hp).2; omega⟩
  obtain ⟨W0, hW0⟩ : ∃ W0, W0 = w.alloc (.cells #[.int .i64 f, .int .i64 root, .int .i64 n] 25) := ⟨_, rfl⟩
  have hB0 := Lib.hid (shape_box w f root n)
  have hX0 := Lib.hid (shape_new w f root n)
  rw [← hW0] at hB0 hX0
  have hBw := Lib.hid (fun W (hW : Below W0.heap.size W0 W) => (below_step hB0.out hW : Below w.heap.size w W))
  have hlg := Lib.hid (large_calls H A c W0 (Kd.C_below hC hB0.out) hc hb)
  have hrc := Lib.hid (fun W (hW : Below W0.heap.size W0 W) => by have := rasked_calls H f root n x A c W (Kd.C_below hC (hBw.out W hW)) hc (by omega) hbig; rw [he] at this; exact this)
  have hsh := Lib.hid (fun W (hW : Below W0.heap.size W0 W) => hsp W (hBw.out W hW))
  have hst := Lib.hid (fun W (hW : Below W0.heap.size W0 W) => hrs W (hBw.out W hW))
  have hw1 : f = 5 → IntKind.i64.wrap (n + 1) = n + 1 := fun e => by have := hn e; exact IntWalk.i64_in _ (by omega)
  have hNN : (N == N) = true := by simp
  clear hC hb hwk he hsm hbig hsp hrs hn
  rcases hf with rfl | rfl | rfl | rfl | rfl
  all_goals
    (first | have hle : decide (N ≤ 11) = true := decide_eq_true hN | have hle : decide (N ≤ 2) = true := decide_eq_true hN | have hle : decide (N ≤ 14) = true := decide_eq_true hN | have hle : decide (N ≤ 5) = true := decide_eq_true hN | have hle : decide (N ≤ n + 1) = true := decide_eq_true hN)
    clear hN
    (first | (have hw1' := hw1 rfl; clear hw1; rename _ => hw1) | clear hw1)
    go_enter Tryz.func4, Tryz.ntmps4
    go_wp2_with fail
    rw [← hW0]
    clear hW0
    refine (hlg.out).mono ?_
    rintro e w1 ⟨rfl, hd⟩
    have hB1 := Lib.hid hd.below
    obtain ⟨c0, c1, c2⟩ := shape_cells hX0.out hB1.out
    clear hd
    go_wp2_with fail
    refine (hsh.out _ hB1.out).mono ?_
    rintro e w2 ⟨rfl, hb⟩
    have hB2 := Lib.hid (below_step hB1.out hb)
    obtain ⟨d0, d1, d2⟩ := shape_cells hX0.out hB2.out
    clear hb c0 c1 c2
    go_wp2_with fail
    refine (hrc.out _ hB2.out).mono ?_
    rintro e w3 ⟨rfl, hb⟩
    have hB3 := Lib.hid (below_step hB2.out hb)
    obtain ⟨c0, c1, c2⟩ := shape_cells hX0.out hB3.out
    clear hb d0 d1 d2
    go_wp2_with fail
    refine (hst.out _ hB3.out).mono ?_
    rintro e w4 ⟨rfl, hb⟩
    have hB4 := Lib.hid (below_step hB3.out hb)
    clear hb c0 c1 c2
    go_wp2_with fail
    refine (hwh.out _).mono ?_
    rintro e w5 ⟨rfl, hb⟩
    have hB5 := Lib.hid (below_step hB4.out hb)
    clear hb
    go_wp2
    go_ret
    exact ⟨rfl, hBw.out _ hB5.out⟩
end Go.Proofs.YtbfedeedicnedaaGreat
end
section
namespace Go.Proofs.YtbfedeedicnedaaGreat
open Go.RowKit
open Go.Proofs.YtbfedeedicnedaaGreatW.PrintWords
set_option maxRecDepth 100000 in
set_option maxHeartbeats 4000000 in
theorem compared_calls (l : List Int) (x : Int) (A : Option Addr) (c : Nat) (w : World) (hC : Kd.C kI w A l.length l) (hbig : l.length ≤ 1000000) :
    Calls Tryz.prog 70 #[.slice A l.length c, .int .i64 x] w fun e w' => e = .returned (.int .i64 ((Sh.findA l x (l.length + 1) 0 l.length 0).2 : Nat)) ∧ w' = w := by
  have hg0 := Lib.hid hC
  obtain ⟨R, hR⟩ : ∃ R, R = Sh.findA l x (l.length + 1) 0 l.length 0 := ⟨_, rfl⟩
  rw [← hR]
  replace hR := Lib.hid hR
  obtain ⟨n, hn⟩ : ∃ n, n = l.length := ⟨_, rfl⟩
  rw [← hn] at hg0 hbig ⊢
  have hnh := Lib.hid hn
  clear hC hn
  go_enter Tryz.func70, Tryz.ntmps70
  go_wp2
  go_loopg [5, 6, 7] n (fun g v11 v12 v13 wr => ∃ (low high s G : Nat), v11 = .int .i64 low ∧ v12 = .int .i64 high ∧ v13 = .int .i64 s ∧ low ≤ high ∧ high ≤ n ∧ s + (high - low) ≤ 1000000 ∧ Hid (g + low = high) ∧ wr = w ∧ Hid (high - low < G) ∧ Hid (R = Sh.findA l x G low high s))
  case atStart => exact ⟨0, n, 0, n + 1, rfl, rfl, rfl, Nat.zero_le _, Nat.le_refl _, by omega, Lib.hid rfl, rfl, Lib.hid (by omega), Lib.hid (by rw [hR.out, hnh.out])⟩
  case round =>
    obtain ⟨low, high, s, G, rfl, rfl, rfl, hlh, hhn, hs, hg, rfl, hG, hRr⟩ := hrel
    obtain ⟨G, rfl⟩ : ∃ G', G = G' + 1 := ⟨G - 1, by have := hG.out; omega⟩
    have hst := Sh.findA_step l x G low high s
    rw [← hRr.out] at hst
    by_cases hlt : low < high
    · rw [if_pos hlt] at hst
      obtain ⟨m, hm⟩ : ∃ m, m = (low + high) / 2 := ⟨_, rfl⟩
      rw [← hm] at hst
      obtain ⟨ad0, rfl, e0⟩ := at_int hg0.out m (by omega) (by omega)
      rw [Int.toNat_natCast] at e0
      have hmn : m < n := by omega
      have hml : low ≤ m := by omega
      have hmh : m < high := by omega
      have hq : ((low : Int) + (high : Int)).tdiv 2 = (m : Int) := by rw [Int.tdiv_eq_ediv_of_nonneg (by omega)]; omega
      replace hm := Lib.hid hm
      obtain ⟨y, hy⟩ : ∃ y, y = Sh.gi l m := ⟨_, rfl⟩
      rw [← hy] at e0 hst
      replace hy := Lib.hid hy
      by_cases c1 : y = x
      · rw [if_pos c1] at hst
        replace hst := Lib.hid hst
        have c1b : (y == x) = true := beq_iff_eq.mpr c1
        clear c1
        go_wp2
        go_ret
        obtain rfl := hst.out
        exact ⟨rfl, rfl⟩
      rw [if_neg c1] at hst
      have c1b : (y == x) = false := beq_eq_false_iff_ne.mpr c1
      by_cases c2 : y < x
      · rw [if_pos c2] at hst
        replace hst := Lib.hid hst
        clear c1
        go_wp2
        go_roundg (high - (m + 1))
        case measure => have := hg.out; omega
        case rel => exact ⟨m + 1, high, s + 1, G, by go_num, rfl, by go_num, by omega, hhn, by omega, Lib.hid (by omega), rfl, Lib.hid (by have := hG.out; omega), hst⟩
      · rw [if_neg c2] at hst
        replace hst := Lib.hid hst
        clear c1
        go_wp2
        go_roundg (m - low)
        case measure => have := hg.out; omega
        case rel => exact ⟨low, m, s + 1, G, rfl, rfl, by go_num, by omega, by omega, by omega, Lib.hid (by omega), rfl, Lib.hid (by have := hG.out; omega), hst⟩
    · rw [if_neg hlt] at hst
      replace hst := Lib.hid hst
      go_wp2
      go_ret
      obtain rfl := hst.out
      exact ⟨rfl, rfl⟩
theorem steps_start (w : World) (f root n : Int) : ∃ W0, W0 = w.alloc (.cells #[.int .i64 f, .int .i64 root, .int .i64 n] 25) ∧ Hid (Below w.heap.size w W0) ∧ W0.cell? ⟨w.heap.size, 0, none⟩ = some (.int .i64 f) ∧ W0.cell? ⟨w.heap.size, 1, none⟩ = some (.int .i64 root) ∧ Hid (W0.heap.size = w.heap.size + 1) := by
  obtain ⟨k0, k1, _⟩ := shape_cells (shape_new w f root n) (Below.refl _ _)
  exact ⟨_, rfl, Lib.hid (shape_box w f root n), k0, k1, Lib.hid (World.size_alloc _ _)⟩
set_option maxRecDepth 100000 in
set_option maxHeartbeats 4000000 in
theorem rsteps_array (H : Sh.Hp) (root n x : Int) (A : Option Addr) (c : Nat) (w : World) (hC : Nodes w A H) (ht : Sh.there H root = true) (hbig : (Sh.nd H root).1.length ≤ 1000000) :
    Calls Tryz.prog 28 #[.slice A H.length c, shV 1 root n, .int .i64 x] w fun e w' => e = .returned (.int .i64 ((Sh.findA (Sh.nd H root).1 x ((Sh.nd H root).1.length + 1) 0 (Sh.nd H root).1.length 0).2 : Nat)) ∧ Below w.heap.size w w' := by
  obtain ⟨W0, hW0, hB0, k0, k1, _⟩ := steps_start w 1 root n
  obtain ⟨hr0, hr1⟩ := Sh.there_iff.1 ht
  have hC1 := Kd.C_below hC hB0.out
  obtain ⟨ad, A0, c0, A1, c1, rfl, d0, d1, l0, g0, l1, g1⟩ := Nodes.at hC1 root hr0 hr1
  obtain ⟨i, rfl⟩ := Int.eq_ofNat_of_zero_le hr0
  simp only [Int.toNat_natCast] at d0 d1
  generalize (Sh.nd H (i : Int)).1 = l at *
  have hcl := Lib.hid (fun nq => compared_calls l x A0 c0 (W0.drewN nq) (Kd.C_below g0 (pw_below_drewN (Below.refl _ _) nq)) hbig)
  generalize (Sh.findA l x (l.length + 1) 0 l.length 0).2 = R at *
  generalize l.length = m at *
  clear hC hC1 g0 g1 ht d1 l1
  go_enter Tryz.func28, Tryz.ntmps28
  go_wp2_with fail
  rw [← hW0]
  clear hW0
  go_quiet (fail)
  go_wp2_with fail
  refine (hcl.out _).mono ?_
  rintro e w1 ⟨rfl, rfl⟩
  go_wp2
  go_ret
  exact ⟨rfl, pw_below_drewN hB0.out _⟩
set_option maxRecDepth 100000 in
set_option maxHeartbeats 4000000 in
theorem rsteps_pages (H : Sh.Hp) (root n x : Int) (A : Option Addr) (c : Nat) (w : World) (hC : Nodes w A H) (ht : Sh.there H root = true) (hk : (Sh.nd H root).2.length = 32) (hx0 : 0 ≤ x) (hx1 : x ≤ 1023) :
    Calls Tryz.prog 28 #[.slice A H.length c, shV 2 root n, .int .i64 x] w fun e w' => e = .returned (.int .i64 (Sh.stepsP H root x : Nat)) ∧ Below w.heap.size w w' := by
  obtain ⟨W0, hW0, hB0, k0, k1, _⟩ := steps_start w 2 root n
  obtain ⟨hr0, hr1⟩ := Sh.there_iff.1 ht
  have hC1 := Kd.C_below hC hB0.out
  obtain ⟨ad, A0, c0, A1, c1, rfl, d0, d1, l0, g0, l1, g1⟩ := Nodes.at hC1 root hr0 hr1
  obtain ⟨ad1, rfl, k2⟩ := at_int g1 (x / 32) (by omega) (by omega)
  rw [hk] at d1 l1
  have hst : Sh.stepsP H root x = if Sh.gi (Sh.nd H root).2 (x / 32).toNat = -1 then 1 else 2 := rfl
  generalize Sh.stepsP H root x = R at *
  generalize Sh.gi (Sh.nd H root).2 (x / 32).toNat = y at *
  generalize (Sh.nd H root).1.length = n0 at *
  have hi32 : x / 32 < 32 := by omega
  have hi0 : 0 ≤ x / 32 := by omega
  obtain ⟨i, rfl⟩ := Int.eq_ofNat_of_zero_le hr0
  simp only [Int.toNat_natCast] at d0 d1
  clear hC hC1 g0 g1 ht hk d0 l0
  by_cases hy : y = -1
  all_goals
    first
    | (rw [if_pos hy] at hst; subst hy; replace hst := Lib.hid hst)
    | (rw [if_neg hy] at hst; have hyb : (y == -1) = false := beq_eq_false_iff_ne.mpr hy; clear hy; replace hst := Lib.hid hst)
    go_enter Tryz.func28, Tryz.ntmps28
    go_wp2_with fail
    rw [← hW0]
    clear hW0
    go_quiet (fail)
    go_wp2
    go_ret
    obtain rfl := hst.out
    exact ⟨rfl, pw_below_drewN hB0.out _⟩
set_option maxRecDepth 100000 in
set_option maxHeartbeats 4000000 in
theorem rsteps_hash (H : Sh.Hp) (root n x : Int) (A : Option Addr) (c : Nat) (w : World) (hC : Nodes w A H) (ht : Sh.there H root = true) (hpos : 0 < (Sh.nd H root).1.length) (hbig : (Sh.nd H root).1.length ≤ 100000) (hx0 : 0 ≤ x) (hx1 : x ≤ 1023) :
    Calls Tryz.prog 28 #[.slice A H.length c, shV 5 root n, .int .i64 x] w fun e w' => e = .returned (.int .i64 ((Sh.place (Sh.nd H root).1 x + 1 : Nat) : Int)) ∧ Below w.heap.size w w' := by
  obtain ⟨W0, hW0, hB0, k0, k1, _⟩ := steps_start w 5 root n
  obtain ⟨hr0, hr1⟩ := Sh.there_iff.1 ht
  have hC1 := Kd.C_below hC hB0.out
  obtain ⟨ad, A0, c0, A1, c1, rfl, d0, d1, l0, g0, l1, g1⟩ := Nodes.at hC1 root hr0 hr1
  obtain ⟨i, rfl⟩ := Int.eq_ofNat_of_zero_le hr0
  simp only [Int.toNat_natCast] at d0 d1
  generalize (Sh.nd H (i : Int)).1 = l at *
  have hcl := Lib.hid (fun nq => way_calls l x A0 c0 (W0.drewN nq) (Kd.C_below g0 (pw_below_drewN (Below.refl _ _) nq)) l0 (by omega) hpos hx0 (by omega))
  rw [← wayL_len]
  generalize PAll.wayL l x = V at *
  generalize l.length = m at *
  clear hC hC1 g0 g1 ht d1 l1
  go_enter Tryz.func28, Tryz.ntmps28
  go_wp2_with fail
  rw [← hW0]
  clear hW0
  go_quiet (fail)
  go_wp2_with fail
  refine (hcl.out _).mono ?_
  rintro e w1 ⟨⟨A2, c2, rfl, hc2, hC2⟩, hb⟩
  have hB1 := Lib.hid (below_step (pw_below_drewN hB0.out _) hb)
  replace hc2 := Lib.hid hc2
  replace hC2 := Lib.hid hC2
  clear hb
  go_wp2
  go_ret
  exact ⟨rfl, hB1.out⟩
set_option maxRecDepth 100000 in
set_option maxHeartbeats 4000000 in
theorem rsteps_tree (H : Sh.Hp) (root n x t : Int) (l : List Int) (A : Option Addr) (c : Nat) (w : World) (hC : Nodes w A H) (T : Sh.Tr H root (-1) 1024 l t) :
    Calls Tryz.prog 28 #[.slice A H.length c, shV 3 root n, .int .i64 x] w fun e w' => e = .returned (.int .i64 ((Sh.findT H x (t.toNat + 1) root 0).2 : Nat)) ∧ Below w.heap.size w w' := by
  obtain ⟨W0, hW0, hB0, k0, k1, _⟩ := steps_start w 3 root n
  obtain ⟨R, hR⟩ : ∃ R, R = Sh.findT H x (t.toNat + 1) root 0 := ⟨_, rfl⟩
  rw [← hR]
  have ht0 := T.nonneg
  have ht14 := T.low
  have hTh := Lib.hid T
  have hCh := Lib.hid hC
  replace hR := Lib.hid hR
  clear hC T
  go_enter Tryz.func28, Tryz.ntmps28
  go_wp2_with fail
  rw [← hW0]
  clear hW0
  go_quiet (fail)
  go_wp2
  go_loopg [8, 7] t.toNat (fun g v2 v10 wr => ∃ (r : Int) (s G : Nat) (lo' hi' t' : Int) (l' : List Int), v2 = .int .i64 r ∧ v10 = .int .i64 s ∧ Hid (Sh.Tr H r lo' hi' l' t') ∧ s + t' ≤ 200000 ∧ 0 ≤ t' ∧ Hid ((g : Int) = t') ∧ Hid (Below w.heap.size w wr) ∧ Hid (t' < G) ∧ Hid (R = Sh.findT H x G r s))
  case atStart => exact ⟨root, 0, t.toNat + 1, _, _, t, l, rfl, rfl, hTh, by omega, ht0, Lib.hid (by omega), Lib.hid (pw_below_drewN hB0.out _), Lib.hid (by omega), hR⟩
  case round =>
    obtain ⟨r, s, G, lo', hi', t', l', rfl, rfl, hT, hs, ht', hg, hB, hG, hRr⟩ := hrel
    obtain ⟨G, rfl⟩ : ∃ G', G = G' + 1 := ⟨G - 1, by have := hG.out; omega⟩
    have hst := Sh.findT_step H x G r s
    rw [← hRr.out] at hst
    by_cases c1 : r = -1
    · rw [if_pos c1] at hst
      replace hst := Lib.hid hst
      subst c1
      go_wp2
      go_ret
      obtain rfl := hst.out
      exact ⟨rfl, hB.out⟩
    · rw [if_neg c1] at hst
      have ht1 : 1 ≤ t' := by rcases hT.out.root with ⟨h, _⟩ | ⟨_, _, _, h⟩; exact absurd h c1; exact h
      obtain ⟨la, lb, ha, hb, e1, e2, q1, q2, T1, T2, q3, q4⟩ := Sh.open_at hT.out ht1
      obtain ⟨r0, r1⟩ : 0 ≤ r ∧ r < (H.length : Int) := by rcases hT.out.root with ⟨h, _⟩ | ⟨h0, h1, _, _⟩; exact absurd h c1; exact ⟨h0, h1⟩
      obtain ⟨x', a', b', la', lb', ha', hb', en, _⟩ := hT.out.parts c1
      have hCw := Kd.C_below hCh.out hB.out
      obtain ⟨ad, A0, c0, A1, c1', rfl, d0, d1, l0, g0, l1, g1⟩ := Nodes.at hCw r r0 r1
      have hn0 : (Sh.nd H r).1.length = 2 := by rw [en]; rfl
      have hn1 : (Sh.nd H r).2.length = 2 := by rw [en]; rfl
      obtain ⟨ad0, rfl, e0⟩ := at_zero g0 (by omega)
      obtain ⟨ad1, rfl, f0, f1⟩ := at_one g1 (by omega)
      rw [hn0] at d0 l0
      rw [hn1] at d1 l1
      have hst' : R = if x = Sh.elt H r then (true, s + 1) else if x < Sh.elt H r then Sh.findT H x G (Sh.lft H r) (s + 1) else Sh.findT H x G (Sh.rgt H r) (s + 1) := hst
      have T1h := Lib.hid T1
      have T2h := Lib.hid T2
      have na := T1.nonneg
      have nb := T2.nonneg
      have e0' : wr.cell? ad0 = some (.int .i64 (Sh.elt H r)) := e0
      have f0' : wr.cell? ad1 = some (.int .i64 (Sh.lft H r)) := f0
      have f1' : wr.cell? ⟨ad1.block, ad1.off + 1, none⟩ = some (.int .i64 (Sh.rgt H r)) := f1
      clear hCw g0 g1 hn0 hn1 en T1 T2 e1 hst e0 f0 f1
      generalize Sh.elt H r = y at *
      generalize Sh.lft H r = a at *
      generalize Sh.rgt H r = b at *
      obtain ⟨i, rfl⟩ := Int.eq_ofNat_of_zero_le r0
      simp only [Int.toNat_natCast] at d0 d1
      have hmx : ha + 1 ≤ t' ∧ hb + 1 ≤ t' := by omega
      have hn1 : ((i : Int) == -1) = false := beq_eq_false_iff_ne.mpr (by omega)
      clear e2
      by_cases c3 : x = y
      · rw [if_pos c3] at hst'
        replace hst' := Lib.hid hst'
        have c3b : (y == x) = true := beq_iff_eq.mpr c3.symm
        clear c3
        go_wp2
        go_ret
        obtain rfl := hst'.out
        exact ⟨rfl, hB.out⟩
      rw [if_neg c3] at hst'
      have c3b : (y == x) = false := beq_eq_false_iff_ne.mpr (fun h => c3 h.symm)
      by_cases c4 : x < y
      · rw [if_pos c4] at hst'
        replace hst' := Lib.hid hst'
        clear c3
        go_wp2
        go_roundg ha.toNat
        case measure => have := hg.out; omega
        case rel => exact ⟨a, s + 1, G, _, _, ha, la, rfl, by go_num, T1h, by omega, na, Lib.hid (by omega), hB, Lib.hid (by have := hG.out; omega), hst'⟩
      · rw [if_neg c4] at hst'
        replace hst' := Lib.hid hst'
        clear c3
        go_wp2
        go_roundg hb.toNat
        case measure => have := hg.out; omega
        case rel => exact ⟨b, s + 1, G, _, _, hb, lb, rfl, by go_num, T2h, by omega, nb, Lib.hid (by omega), hB, Lib.hid (by have := hG.out; omega), hst'⟩
set_option maxRecDepth 100000 in
set_option maxHeartbeats 4000000 in
theorem rsteps_none (n x : Int) (m : Nat) (A : Option Addr) (c : Nat) (w : World) :
    Calls Tryz.prog 28 #[.slice A m c, shV 4 (-1) n, .int .i64 x] w fun e w' => e = .returned (.int .i64 0) ∧ Below w.heap.size w w' := by
  obtain ⟨W0, hW0, hB0, k0, k1, _⟩ := steps_start w 4 (-1) n
  go_enter Tryz.func28, Tryz.ntmps28
  go_wp2_with fail
  rw [← hW0]
  clear hW0
  go_quiet (fail)
  go_wp2
  go_loopg [8, 7, 9] 0 (fun g v8 v7 v9 wr => v8 = .int .i64 (-1) ∧ v7 = .int .i64 0 ∧ Hid (Below w.heap.size w wr))
  case atStart => exact ⟨rfl, rfl, Lib.hid (pw_below_drewN hB0.out _)⟩
  case round =>
    obtain ⟨rfl, rfl, hB⟩ := hrel
    go_wp2
    go_ret
    exact ⟨rfl, hB.out⟩
set_option maxRecDepth 100000 in
set_option maxHeartbeats 4000000 in
theorem rsteps_trie (H : Sh.Hp) (root n x : Int) (A : Option Addr) (c : Nat) (w : World) (hC : Nodes w A H) (hT : Sh.TrieAt H 4 root) (hx0 : 0 ≤ x) (hx1 : x ≤ 1023) :
    Calls Tryz.prog 28 #[.slice A H.length c, shV 4 root n, .int .i64 x] w fun e w' => e = .returned (.int .i64 (Sh.stepsR H x 4 root : Nat)) ∧ Below w.heap.size w w' := by
  obtain ⟨W0, hW0, hB0, k0, k1, _⟩ := steps_start w 4 root n
  obtain ⟨S, hS⟩ : ∃ S, S = Sh.stepsR H x 4 root := ⟨_, rfl⟩
  rw [← hS]
  have hSh := Lib.hid hS
  have hTh := Lib.hid hT
  have hNo := Lib.hid (fun W (hW : Below w.heap.size w W) => (Kd.C_below hC hW : Nodes W A H))
  clear hC hS hT
  go_enter Tryz.func28, Tryz.ntmps28
  go_wp2_with fail
  rw [← hW0]
  clear hW0
  go_quiet (fail)
  go_wp2
  go_loopg [8, 7, 9] 5 (fun gg v8 v7 v9 wr => ∃ (g : Nat) (r s p : Int), v8 = .int .i64 r ∧ v7 = .int .i64 s ∧ v9 = .int .i64 p ∧ Hid (gg ≤ 5 ∧ g ≤ 4 ∧ (gg = g + 1 ∧ s = ((4 - g : Nat) : Int) ∧ p = ((4 ^ g : Nat) : Int) ∧ Sh.TrieAt H g r ∧ S = Sh.stepsR H x g r ∨ r = -1 ∧ (S : Int) = s)) ∧ Hid (Below w.heap.size w wr))
  case atStart => exact ⟨4, root, 0, 256, rfl, rfl, rfl, Lib.hid ⟨by omega, by omega, .inl ⟨rfl, rfl, rfl, hTh.out, hSh.out⟩⟩, Lib.hid (pw_below_drewN hB0.out _)⟩
  case round =>
    obtain ⟨g, r, s, p, rfl, rfl, rfl, hinv, hB⟩ := hrel
    obtain ⟨hgg5, hg4, ⟨hgg, hs, hp, hT, hSr⟩ | ⟨rfl, hSs⟩⟩ := hinv.out
    · clear hinv
      rcases g with _ | g
      · obtain rfl : s = 4 := hs
        obtain rfl : p = 1 := hp
        obtain ⟨ht, hn1⟩ := Sh.trie_leaf hT
        obtain ⟨h0, h1⟩ := Sh.there_iff.1 ht
        obtain ⟨ad, A0, c0, A1, c1, rfl, d0, d1, l0, g0, l1, g1⟩ := Nodes.at (hNo.out _ hB.out) r h0 h1
        have hz : (Sh.nd H r).2.length = 0 := by rw [Sh.trie_leaf2 hT]; rfl
        rw [hz] at d1 l1
        have hSr' := Lib.hid (show S = 5 from hSr)
        generalize (Sh.nd H r).1.length = n0 at *
        clear g0 g1 ht hn1 hSr hT hgg hgg5 hg4 hz
        obtain ⟨i, rfl⟩ := Int.eq_ofNat_of_zero_le h0
        simp only [Int.toNat_natCast] at d0 d1
        have hn1 : ((i : Int) == -1) = false := beq_eq_false_iff_ne.mpr (by omega)
        go_wp2
        go_ret
        exact ⟨by rw [hSr'.out]; rfl, hB.out⟩
      · obtain ⟨ht, hk4, hkid⟩ := Sh.trie_node hT
        obtain ⟨h0, h1⟩ := Sh.there_iff.1 ht
        obtain ⟨ad, A0, c0, A1, c1, rfl, d0, d1, l0, g0, l1, g1⟩ := Nodes.at (hNo.out _ hB.out) r h0 h1
        obtain ⟨dg, hdg⟩ : ∃ dg, dg = Sh.digT x (g + 1) := ⟨_, rfl⟩
        have hd : 0 ≤ dg ∧ dg < 4 := by rw [hdg]; unfold Sh.digT; omega
        obtain ⟨ad1, rfl, k2⟩ := at_int g1 dg hd.1 (by omega)
        have hq := hkid dg.toNat (by omega)
        have hSr' : S = if Sh.gi (Sh.nd H r).2 dg.toNat = -1 then 4 - g else Sh.stepsR H x g (Sh.gi (Sh.nd H r).2 dg.toNat) := by rw [hdg]; exact hSr
        have hdv := Lib.hid (Sh.dig_rem x (g + 1) hx0 hx1 hg4)
        rw [← hp, ← hdg] at hdv
        have hpp := Lib.hid (Sh.pow_four g hg4)
        rw [← hp] at hpp
        have hp1 : 1 ≤ p := by rw [hp]; have : 0 < 4 ^ (g + 1) := Nat.pow_pos (by omega); omega
        have hp2 : p ≤ 256 := by rw [hp]; exact Sh.pow_most g hg4
        rw [hk4] at d1 l1
        generalize Sh.gi (Sh.nd H r).2 dg.toNat = y at *
        generalize (Sh.nd H r).1.length = n0 at *
        have hs' := Lib.hid hs
        have hs1 : 0 ≤ s ∧ s ≤ 4 := by omega
        have hgg' := Lib.hid hgg
        have hg4' := Lib.hid hg4
        replace hq := Lib.hid hq
        replace hSr' := Lib.hid hSr'
        have hpn : p ≠ 0 := by omega
        have hpb : (p == 0) = false := beq_eq_false_iff_ne.mpr hpn
        have hdd : x.tdiv p = x / p := Int.tdiv_eq_ediv_of_nonneg hx0
        have hdp : p.tdiv 4 = p / 4 := Int.tdiv_eq_ediv_of_nonneg (by omega)
        have hxp0 : 0 ≤ x / p := Int.ediv_nonneg hx0 (by omega)
        have hxp1 : x / p ≤ 1023 := Int.le_trans (Int.ediv_le_self _ hx0) hx1
        have hm0 : (x / p).tmod 4 = dg := by rw [Int.tmod_eq_emod_of_nonneg hxp0]; exact hdv.out
        obtain ⟨hd0, hd4⟩ := hd
        clear g0 g1 ht hk4 hkid hT hSr hs hgg hgg5 hg4 hdv hdg hp hpn
        obtain ⟨i, rfl⟩ := Int.eq_ofNat_of_zero_le h0
        simp only [Int.toNat_natCast] at d0 d1
        have hn1 : ((i : Int) == -1) = false := beq_eq_false_iff_ne.mpr (by omega)
        have hw1 : IntKind.i64.wrap (x / p) = x / p := IntWalk.i64_in _ (by omega)
        have hw2 : IntKind.i64.wrap dg = dg := IntWalk.i64_in _ (by omega)
        have hw3 : IntKind.i64.wrap (p / 4) = p / 4 := IntWalk.i64_in _ (by omega)
        have hdg' : ∃ j : Nat, dg = j := ⟨dg.toNat, by omega⟩
        go_wp2
        go_quiet (fail)
        go_wp2
        go_roundg (if y = -1 then 0 else g + 1)
        case measure => have := hgg'.out; split <;> omega
        case rel =>
          refine ⟨g, y, s + 1, p / 4, rfl, by go_num, rfl, Lib.hid ?_, Lib.hid (pw_below_drewN hB.out _)⟩
          have h1 := hs'.out
          have h2 := hgg'.out
          have h3 := hg4'.out
          have h4 := hSr'.out
          have h5 := hpp.out
          by_cases hy : y = -1
          · rw [if_pos hy] at h4 ⊢
            exact ⟨by omega, by omega, .inr ⟨hy, by omega⟩⟩
          · rw [if_neg hy] at h4 ⊢
            exact ⟨by omega, by omega, .inl ⟨rfl, by omega, h5, hq.out.resolve_left hy, h4⟩⟩
    · replace hSs := Lib.hid hSs
      clear hinv hg4 hgg5
      go_wp2
      go_ret
      exact ⟨by rw [hSs.out]; rfl, hB.out⟩
end Go.Proofs.YtbfedeedicnedaaGreat
end
section
namespace Go.Proofs.YtbfedeedicnedaaGreat
open Go.RowKit
open Go.Proofs.YtbfedeedicnedaaGreatW.PrintWords
theorem findsF_wt {H : Sh.Hp} {f root x : Int} {b : Bool} {n : Nat} (h : FindsF H f root x b n) : WT.FindsF H f root x b n := fun ty k hk A c w hC => h ty k hk A c w hC.1
theorem rsteps_R {H : Sh.Hp} {root n x : Int} {l : List Int} (hl : Sh.listTrie H root = some l) (hx0 : 0 ≤ x) (hx1 : x ≤ 1023) (A : Option Addr) (c : Nat) (w : World) (hC : Nodes w A H) :
    Calls Tryz.prog 28 #[.slice A H.length c, shV 4 root n, .int .i64 x] w fun e w' => e = .returned (.int .i64 (Sh.stepsTrie H root x : Nat)) ∧ Below w.heap.size w w' := by
  unfold Sh.listTrie at hl
  unfold Sh.stepsTrie
  by_cases hr : root = -1
  · subst hr
    rw [if_pos rfl]
    exact rsteps_none n x H.length A c w
  · rw [if_neg hr] at hl ⊢
    exact rsteps_trie H root n x A c w hC ⟨0, l, hl⟩ hx0 hx1
theorem steps_both {H : Sh.Hp} {f root n x : Int} {l : List Int} (hl : Sh.list f H root = some l) (hn : (l.length : Int) = n) (hx0 : 0 ≤ x) (hx1 : x ≤ 1023) (hbig : ∀ p ∈ H, p.1.length ≤ 100000) :
    (f = 1 ∨ f = 2 ∨ f = 3 ∨ f = 4 ∨ f = 5) ∧ (f = 5 → 0 ≤ n ∧ n ≤ 1000000) ∧ ∃ b N, WT.FindsF H f root x b N ∧ (∀ (A : Option Addr) (c : Nat) (w : World), Nodes w A H → Calls Tryz.prog 28 #[.slice A H.length c, shV f root n, .int .i64 x] w fun e w' => e = .returned (.int .i64 N) ∧ Below w.heap.size w w') ∧ (N : Int) ≤ mostI f n := by
  have hsz : ∀ r, Sh.there H r = true → (Sh.nd H r).1.length ≤ 100000 := fun r hr => hbig _ (List.mem_of_getElem? (Sh.nd_there hr))
  unfold Sh.list at hl
  by_cases f1 : f = 1
  · subst f1
    rw [if_pos rfl] at hl
    unfold Sh.listArray at hl
    split at hl
    case isFalse => cases hl
    case isTrue hc =>
      simp only [Bool.and_eq_true, beq_iff_eq] at hc
      obtain ⟨ht, _, hr⟩ := hc
      have hlen := Sh.els_len (l := (Sh.nd H root).1) (Sh.rising_iff.1 hr)
      refine ⟨.inl rfl, fun h => absurd h (by decide), _, _, findsF_wt (finds_array ht (by omega)), fun A c w hC => rsteps_array H root n x A c w hC ht (by omega), ?_⟩
      have := Sh.findA_le (Sh.nd H root).1 x ((Sh.nd H root).1.length + 1) 11 0 (Sh.nd H root).1.length 0 (by omega)
      show _ ≤ (11 : Int)
      omega
  · rw [if_neg f1] at hl
    by_cases f2 : f = 2
    · subst f2
      rw [if_pos rfl] at hl
      obtain ⟨b, hb⟩ := finds_pages hl hx0 hx1
      have hl' := hl
      unfold Sh.listPages at hl'
      split at hl'
      case isFalse => cases hl'
      case isTrue hc =>
        simp only [Bool.and_eq_true, beq_iff_eq] at hc
        refine ⟨.inr (.inl rfl), fun h => absurd h (by decide), b, _, hb, fun A c w hC => rsteps_pages H root n x A c w hC hc.1 hc.2.2 hx0 hx1, ?_⟩
        have := Sh.stepsP_le H root x
        show _ ≤ (2 : Int)
        omega
    · rw [if_neg f2] at hl
      by_cases f3 : f = 3
      · subst f3
        rw [if_pos rfl] at hl
        obtain ⟨t, T⟩ := Sh.listTree_iff.1 hl
        refine ⟨.inr (.inr (.inl rfl)), fun h => absurd h (by decide), _, _, findsF_wt (finds_tree T), fun A c w hC => rsteps_tree H root n x t l A c w hC T, ?_⟩
        have h1 := Sh.findT_le (x := x) (t.toNat + 1) 0 T
        have h2 := T.low
        show _ ≤ (14 : Int)
        omega
      · rw [if_neg f3] at hl
        by_cases f4 : f = 4
        · subst f4
          rw [if_pos rfl] at hl
          obtain ⟨b, hb⟩ := finds_trie hl hx0 hx1
          refine ⟨.inr (.inr (.inr (.inl rfl))), fun h => absurd h (by decide), b, _, hb, rsteps_R hl hx0 hx1, ?_⟩
          have := Sh.stepsTrie_le H root x
          show _ ≤ (5 : Int)
          omega
        · rw [if_neg f4] at hl
          by_cases f5 : f = 5
          · subst f5
            rw [if_pos rfl] at hl
            obtain ⟨ht, _, T, hll⟩ := Sh.listHash_iff.1 hl
            have h8 := Sh.pow2_pos T.size
            have hle := Sh.place_le T x hx0
            have hll2 : l.length = (Sh.full (Sh.nd H root).1).length := by rw [hll, List.length_mergeSort]
            have hmost := T.most
            refine ⟨.inr (.inr (.inr (.inr rfl))), fun _ => by omega, _, _, findsF_wt (finds_hash ht hx0 (by omega) (by omega) (by omega)), fun A c w hC => rsteps_hash H root n x A c w hC ht (by omega) (by omega) hx0 hx1, ?_⟩
            show _ ≤ n + 1
            omega
          · rw [if_neg f5] at hl
            cases hl
end Go.Proofs.YtbfedeedicnedaaGreat
end
section
namespace Go.Proofs.YtbfedeedicnedaaGreat
open Go.RowKit
def regionOf (n : Nat) : Code → Option Code
  | .region id ops d => if id = n then some (.region id ops d) else none
  | .seq a b => match regionOf n a with
    | some c => some c
    | none => regionOf n b
  | .cond _ a b => match regionOf n a with
    | some c => some c
    | none => regionOf n b
  | .block _ c => regionOf n c
  | .scope c => regionOf n c
  | .loop c => regionOf n c
  | _ => none
noncomputable def wreg (n : Nat) : Code := (Tryz.f15.body.bind (regionOf n)).getD .skip
def afterStmt (n : Nat) : Code → Option Code
  | .seq a b => if (regionOf n a).isSome then some b else afterStmt n b
  | _ => none
noncomputable def wafter (n : Nat) : Code := (Tryz.f15.body.bind (afterStmt n)).getD .skip
end Go.Proofs.YtbfedeedicnedaaGreat
end
