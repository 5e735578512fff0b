/-
  Texts of this claim: ShQ, ShR, ShT.
-/
import Derived.Test.YtbfedeedicnedaaGreatSx22
import Derived.Laws.EntriesVeiled
set_option linter.unusedVariables false
set_option linter.unusedSimpArgs false
section
namespace Go.Proofs.YtbfedeedicnedaaGreat
open Go.RowKit
open Go.Proofs.YtbfedeedicnedaaGreatW.PrintWords
def formV (f : Int) : Value := if f = 1 then .iface 154 (.agg #[]) else if f = 2 then .iface 155 (.agg #[]) else if f = 3 then .iface 119 (.agg #[]) else if f = 4 then .iface 156 (.agg #[]) else .iface 157 (.agg #[])
theorem five {f : Int} (h0 : 1 ≤ f) (h1 : f ≤ 5) : f = 1 ∨ f = 2 ∨ f = 3 ∨ f = 4 ∨ f = 5 := by omega
set_option maxRecDepth 100000 in
set_option maxHeartbeats 1000000 in
theorem known_calls (f : Int) (w : World) : Calls Tryz.prog 72 #[.int .i64 f] w fun e w' => e = .returned (.bool (decide (1 ≤ f) && decide (f ≤ 5))) ∧ w' = w := by
  by_cases h0 : 1 ≤ f
  · rw [decide_eq_true h0, Bool.true_and]
    go_enter Tryz.func72, Tryz.ntmps72
    go_wp2
    go_ret
    exact ⟨rfl, rfl⟩
  · rw [decide_eq_false h0, Bool.false_and]
    go_enter Tryz.func72, Tryz.ntmps72
    go_wp2
    go_ret
    exact ⟨rfl, rfl⟩
set_option maxRecDepth 100000 in
set_option maxHeartbeats 1000000 in
theorem forms_calls (w : World) : Calls Tryz.prog 100 #[] w fun e w' => e = .returned (.agg #[.iface 154 (.agg #[]), .iface 155 (.agg #[]), .iface 119 (.agg #[]), .iface 156 (.agg #[]), .iface 157 (.agg #[])]) ∧ Below w.heap.size w w' := by
  go_enter Tryz.func100, Tryz.ntmps100
  go_wp2
  refine bodyPost_ret (results_cell_row rfl _ _ w.heap.size 134 #[.iface 154 (.agg #[]), .iface 155 (.agg #[]), .iface 119 (.agg #[]), .iface 156 (.agg #[]), .iface 157 (.agg #[])] (0, 0) _ rfl (heap_alloc_new w _) Tryz.underlying134 rfl (by kernel_rfl)) rfl ?_
  exact ⟨rfl, (Below.refl _ _).alloc (Nat.le_refl _) _⟩
set_option maxRecDepth 100000 in
set_option maxHeartbeats 1000000 in
theorem tlist_calls (H : Sh.Hp) (root : Int) (A : Option Addr) (c : Nat) (w : World) (hC : Nodes w A H) :
    Calls Tryz.prog 155 #[.agg #[], .slice A H.length c, .int .i64 root] w fun e w' => Got w.heap.size w' e (Sh.listTree H root) ∧ Below w.heap.size w w' := by
  have hB0 := Lib.hid (show Below w.heap.size w (w.alloc (.cells #[] 119)) from (Below.refl _ _).alloc (Nat.le_refl _) _)
  have hcl := Lib.hid (twalk_calls 1026 H root (-1) 1024 A c (w.alloc (.cells #[] 119)) (Kd.C_alloc hC _) (by omega) (by omega) (by omega) (by omega))
  have hs := Lib.hid (show w.heap.size ≤ (w.alloc (.cells #[] 119)).heap.size by rw [World.size_alloc]; omega)
  unfold Sh.listTree
  generalize Sh.walkTree H 1026 root (-1) 1024 = r at *
  go_enter Tryz.func155, Tryz.ntmps155
  go_wp2_with fail
  refine (hcl.out).mono ?_
  rintro e w1 ⟨⟨v, rfl, ho⟩, hb⟩
  have ho1 := Lib.hid (Kd.R_lower ho hs.out)
  have hb1 := Lib.hid (Below.trans hB0.out (hb.mono hs.out))
  clear ho hb
  go_wp2
  go_ret2
  exact ⟨⟨_, rfl, ho1.out⟩, hb1.out⟩
set_option maxRecDepth 100000 in
set_option maxHeartbeats 1000000 in
theorem of_calls (f : Int) (w : World) (h0 : 1 ≤ f) (h1 : f ≤ 5) : Calls Tryz.prog 99 #[.int .i64 f] w fun e w' => e = .returned (formV f) ∧ Below w.heap.size w w' := by
  have hf := Lib.hid (forms_calls w)
  have i0 : ∀ W : World, (Instr.index 134 (.agg #[.iface 154 (.agg #[]), .iface 155 (.agg #[]), .iface 119 (.agg #[]), .iface 156 (.agg #[]), .iface 157 (.agg #[])]) (.int .i64 0)).run Tryz.prog W = .ok (.iface 154 (.agg #[])) W := fun W => by kernel_rfl
  have i1 : ∀ W : World, (Instr.index 134 (.agg #[.iface 154 (.agg #[]), .iface 155 (.agg #[]), .iface 119 (.agg #[]), .iface 156 (.agg #[]), .iface 157 (.agg #[])]) (.int .i64 1)).run Tryz.prog W = .ok (.iface 155 (.agg #[])) W := fun W => by kernel_rfl
  have i2 : ∀ W : World, (Instr.index 134 (.agg #[.iface 154 (.agg #[]), .iface 155 (.agg #[]), .iface 119 (.agg #[]), .iface 156 (.agg #[]), .iface 157 (.agg #[])]) (.int .i64 2)).run Tryz.prog W = .ok (.iface 119 (.agg #[])) W := fun W => by kernel_rfl
  have i3 : ∀ W : World, (Instr.index 134 (.agg #[.iface 154 (.agg #[]), .iface 155 (.agg #[]), .iface 119 (.agg #[]), .iface 156 (.agg #[]), .iface 157 (.agg #[])]) (.int .i64 3)).run Tryz.prog W = .ok (.iface 156 (.agg #[])) W := fun W => by kernel_rfl
  have i4 : ∀ W : World, (Instr.index 134 (.agg #[.iface 154 (.agg #[]), .iface 155 (.agg #[]), .iface 119 (.agg #[]), .iface 156 (.agg #[]), .iface 157 (.agg #[])]) (.int .i64 4)).run Tryz.prog W = .ok (.iface 157 (.agg #[])) W := fun W => by kernel_rfl
  rcases five h0 h1 with rfl | rfl | rfl | rfl | rfl
  all_goals
    go_enter Tryz.func99, Tryz.ntmps99
    go_wp2_with fail
    refine (hf.out).mono ?_
    rintro e w1 ⟨rfl, hb⟩
    replace hb := Lib.hid hb
    go_wp2
    go_ret
    exact ⟨rfl, hb.out⟩
def GotX (ex : Prop) (base : Nat) (w' : World) (e : Ending) (r : Option (List Int)) : Prop := ∃ v l, e = .returned (.tuple #[v, .bool r.isSome]) ∧ Ints w' base v l ∧ l.length = (r.getD []).length ∧ (ex → l = r.getD [])
theorem Got.x {base : Nat} {w' : World} {e : Ending} {r : Option (List Int)} (h : Got base w' e r) (ex : Prop) : GotX ex base w' e r := by
  obtain ⟨v, rfl, ho⟩ := h
  exact ⟨v, _, rfl, ho, rfl, fun _ => rfl⟩
def Digital (f : Int) : Prop := f = 2 ∨ f = 4
def ListsF (H : Sh.Hp) (f : Int) : Prop := ∀ (ty k : Nat), (ty = 154 ∧ k = 163 ∧ f = 1) ∨ (ty = 155 ∧ k = 168 ∧ f = 2) ∨ (ty = 119 ∧ k = 155 ∧ f = 3) ∨ (ty = 156 ∧ k = 181 ∧ f = 4) ∨ (ty = 157 ∧ k = 191 ∧ f = 5) → ∀ (root : Int) (A : Option Addr) (c : Nat) (w : World), Nodes w A H →
  Calls Tryz.prog k #[.agg #[], .slice A H.length c, .int .i64 root] w fun e w' => GotX (¬ Digital f) w.heap.size w' e (Sh.list f H root) ∧ Below w.heap.size w w'
theorem listsF_plain {H : Sh.Hp} {f : Int} (hbig : ∀ p ∈ H, p.1.length ≤ 1000000) (hf : ¬ Digital f) : ListsF H f := by
  intro ty k hk root A c w hC
  unfold Digital at hf
  rcases hk with ⟨rfl, rfl, rfl⟩ | ⟨rfl, rfl, rfl⟩ | ⟨rfl, rfl, rfl⟩ | ⟨rfl, rfl, rfl⟩ | ⟨rfl, rfl, rfl⟩
  · exact (alist_calls H root A c w hC hbig).mono fun e w' h => ⟨h.1.x _, h.2⟩
  · exact absurd (.inl rfl) hf
  · exact (tlist_calls H root A c w hC).mono fun e w' h => ⟨h.1.x _, h.2⟩
  · exact absurd (.inr rfl) hf
  · exact (hlist_calls H root A c w hC hbig).mono fun e w' h => ⟨h.1.x _, h.2⟩
def LGot (D : Prop) (base : Nat) (w' : World) (e : Ending) (R : List Int × Int) : Prop := ∃ v l, e = .returned (.tuple #[v, .int .i64 R.2]) ∧ Ints w' base v l ∧ l.length = R.1.length ∧ (D → l = R.1)
set_option maxRecDepth 100000 in
set_option maxHeartbeats 1000000 in
theorem listed_calls (H : Sh.Hp) (f root count : Int) (A : Option Addr) (c : Nat) (w : World) (hC : Nodes w A H) (hL : ListsF H f) :
    Calls Tryz.prog 60 #[.slice A H.length c, .agg #[.int .i64 f, .int .i64 root, .int .i64 count]] w fun e w' => LGot (¬ Digital f) w.heap.size w' e (Sh.listed H f root count) ∧ Below w.heap.size w w' := by
  have hB0 := Lib.hid (show Below w.heap.size w (w.alloc (.cells #[.int .i64 f, .int .i64 root, .int .i64 count] 25)) from (Below.refl _ _).alloc (Nat.le_refl _) _)
  obtain ⟨R, hR⟩ : ∃ R, R = Sh.listed H f root count := ⟨_, rfl⟩
  rw [← hR]
  unfold Sh.listed at hR
  by_cases h1 : 3000 < H.length
  · rw [if_pos h1] at hR
    subst hR
    go_enter Tryz.func60, Tryz.ntmps60
    go_wp2
    go_ret2
    exact ⟨⟨_, [], rfl, Kd.R_nil _ _ _ _ _, rfl, fun _ => rfl⟩, hB0.out⟩
  rw [if_neg h1] at hR
  have hkn := Lib.hid (fun W => known_calls f W)
  by_cases hf : 1 ≤ f ∧ f ≤ 5
  case neg =>
    have hkf : (decide (1 ≤ f) && decide (f ≤ 5)) = false := by rw [Bool.and_eq_false_iff, decide_eq_false_iff_not, decide_eq_false_iff_not]; omega
    rw [hkf] at hkn
    have hln : Sh.list f H root = none := by
      unfold Sh.list
      rw [if_neg (by omega), if_neg (by omega), if_neg (by omega), if_neg (by omega), if_neg (by omega)]
    rw [hln] at hR
    have hR' : R = ([], 2) := hR
    clear hR
    subst hR'
    clear hkf hln hL
    go_enter Tryz.func60, Tryz.ntmps60
    go_wp2_with fail
    refine (hkn.out _).mono ?_
    rintro e w1 ⟨rfl, rfl⟩
    go_wp2
    go_ret2
    exact ⟨⟨_, [], rfl, Kd.R_nil _ _ _ _ _, rfl, fun _ => rfl⟩, hB0.out⟩
  case pos =>
    obtain ⟨h2, h3⟩ := hf
    have hkf : (decide (1 ≤ f) && decide (f ≤ 5)) = true := by rw [decide_eq_true h2, decide_eq_true h3]; rfl
    rw [hkf] at hkn
    have hof := Lib.hid (fun W => of_calls f W h2 h3)
    obtain ⟨ty, k, hfv, hk, hm⟩ : ∃ (ty k : Nat), formV f = .iface ty (.agg #[]) ∧ ((ty = 154 ∧ k = 163 ∧ f = 1) ∨ (ty = 155 ∧ k = 168 ∧ f = 2) ∨ (ty = 119 ∧ k = 155 ∧ f = 3) ∨ (ty = 156 ∧ k = 181 ∧ f = 4) ∨ (ty = 157 ∧ k = 191 ∧ f = 5)) ∧ (∀ W : World, (method 312 ty (.agg #[]) "sward/shape.list").run Tryz.prog W = .ok (k, .agg #[]) W) := by
      rcases five h2 h3 with rfl | rfl | rfl | rfl | rfl
      · exact ⟨154, 163, rfl, by omega, fun _ => by kernel_rfl⟩
      · exact ⟨155, 168, rfl, by omega, fun _ => by kernel_rfl⟩
      · exact ⟨119, 155, rfl, by omega, fun _ => by kernel_rfl⟩
      · exact ⟨156, 181, rfl, by omega, fun _ => by kernel_rfl⟩
      · exact ⟨157, 191, rfl, by omega, fun _ => by kernel_rfl⟩
    have hls := Lib.hid (hL ty k hk root)
    rw [hfv] at hof
    obtain ⟨r, hr⟩ : ∃ r, r = Sh.list f H root := ⟨_, rfl⟩
    rw [← hr] at hls hR
    obtain ⟨w2, hw2⟩ : ∃ w2, w2 = w.alloc (.cells #[.int .i64 f, .int .i64 root, .int .i64 count] 25) := ⟨_, rfl⟩
    have hsz := Lib.hid (show w.heap.size + 1 ≤ w2.heap.size by rw [hw2, World.size_alloc]; omega)
    have hc0 : ∀ W, Below (w.heap.size + 1) w2 W → W.cell? ⟨w.heap.size, 0, none⟩ = some (.int .i64 f) ∧ W.cell? ⟨w.heap.size, 1, none⟩ = some (.int .i64 root) ∧ W.cell? ⟨w.heap.size, 2, none⟩ = some (.int .i64 count) := fun W hW => by
      refine ⟨?_, ?_, ?_⟩
      all_goals
        rw [hW.cell (p := ⟨w.heap.size, _, none⟩) (by show w.heap.size < _; omega), hw2]
        simp
    have hc3 := Lib.hid (fun W hW => (hc0 W hW).2.2)
    have hcc := Lib.hid (fun W hW => (⟨hW, (hc0 W hW).1, (hc0 W hW).2.1⟩ : _ ∧ _ ∧ _))
    have hC2 : Nodes w2 A H := by rw [hw2]; exact Kd.C_alloc hC _
    have hNod := Lib.hid (fun W (hW : Below (w.heap.size + 1) w2 W) => (Kd.C_below hC2 (hW.mono (by rw [hw2, World.size_alloc]; omega)) : Nodes W A H))
    have hBd := Lib.hid (show Below (w.heap.size + 1) w2 w2.drew from (Below.refl _ _).drew)
    have hB2 := Lib.hid (show Below w.heap.size w w2 by rw [hw2]; exact hB0.out)
    have hexd := Lib.hid (fun (h : ¬ Digital f) => h)
    obtain ⟨D, hD⟩ : ∃ D, D = ¬ Digital f := ⟨_, rfl⟩
    rw [← hD] at hls ⊢
    replace hR := Lib.hid hR
    clear hC2 hc0 hC hL hfv hkf hr hD hexd hB0
    rcases hk with ⟨rfl, rfl, -⟩ | ⟨rfl, rfl, -⟩ | ⟨rfl, rfl, -⟩ | ⟨rfl, rfl, -⟩ | ⟨rfl, rfl, -⟩
    all_goals
      go_enter Tryz.func60, Tryz.ntmps60
      go_wp2_with fail
      refine (hkn.out _).mono ?_
      rintro e w1 ⟨rfl, rfl⟩
      go_wp2
      rw [← hw2]
      clear hw2
      go_region_held3 (fun W' => Below (w.heap.size + 1) w2 W' ∧ W'.cell? ⟨w.heap.size, 0, none⟩ = some (.int .i64 f) ∧ W'.cell? ⟨w.heap.size, 1, none⟩ = some (.int .i64 root))
        (first
          | exact hcc.out _ (by assumption)
          | exact hcc.out _ hBd.out
          | fail)
        (first
          | (go_at_call 99; refine (hof.out _).mono ?_; rintro e w3 ⟨rfl, hb1⟩; have hB3 : Below (w.heap.size + 1) w2 w3 := Below.trans hBd.out (hb1.mono hsz.out); replace hb1 := Lib.hid hb1)
          | (refine (hls.out _ _ _ ?hl).mono ?_; (case hl => exact hNod.out _ (by assumption)); rintro e w4 ⟨⟨v1, l1, rfl, ho1, ho2, ho3⟩, hb2⟩; have hB4 : Below (w.heap.size + 1) w2 w4 := Below.trans (by assumption) (hb2.mono (Nat.le_trans hsz.out (Below.size (by assumption)))); replace ho1 := Lib.hid ho1; replace ho2 := Lib.hid ho2; replace ho3 := Lib.hid ho3; replace hb2 := Lib.hid hb2))
      replace hB4 := Lib.hid (show Below (w.heap.size + 1) w2 w4 from by assumption)
      have hct := hc3.out _ hB4.out
      have hBf := Lib.hid (Below.trans hB2.out (hB4.out.mono (by omega)))
      have hof3 := Lib.hid (Kd.R_lower ho1.out (show w.heap.size ≤ w3.heap.size from Nat.le_trans (by have := hsz.out; omega) (Below.size (show Below (w.heap.size + 1) w2 w3 from by assumption))))
      rcases r with _ | l
      · obtain rfl : R = ([], 2) := hR.out
        go_wp2
        go_ret2
        exact ⟨⟨_, [], rfl, Kd.R_nil _ _ _ _ _, rfl, fun _ => rfl⟩, hBf.out⟩
      · have hlen : l1.length = l.length := ho2.out
        obtain ⟨A5, c5, rfl⟩ := Kd.R_slice hof3.out
        have hRl : R = if (l.length : Int) = count then (l, 0) else ([], 2) := hR.out
        rw [← hlen] at hRl
        obtain ⟨n, hn⟩ : ∃ n, n = l1.length := ⟨_, rfl⟩
        rw [← hn] at hRl hof3 ⊢
        replace hn := Lib.hid hn
        replace hlen := Lib.hid hlen
        by_cases hcn : (n : Int) = count
        · rw [if_pos hcn] at hRl
          subst hRl
          have hcb : ((n : Int) != count) = false := bne_eq_false_iff_eq.mpr hcn
          clear hcn
          go_wp2
          go_ret2
          exact ⟨⟨_, l1, rfl, hof3.out, hlen.out, fun h => ho3.out h⟩, hBf.out⟩
        · rw [if_neg hcn] at hRl
          subst hRl
          have hcb : ((n : Int) != count) = true := bne_iff_ne.mpr hcn
          clear hcn
          go_wp2
          go_ret2
          exact ⟨⟨_, [], rfl, Kd.R_nil _ _ _ _ _, rfl, fun _ => rfl⟩, hBf.out⟩
end Go.Proofs.YtbfedeedicnedaaGreat
end
section
namespace Go.Proofs.YtbfedeedicnedaaGreat
open Go.RowKit
open Go.Proofs.YtbfedeedicnedaaGreatW.PrintWords
abbrev shV (f root count : Int) : Value := .agg #[.int .i64 f, .int .i64 root, .int .i64 count]
theorem shape_box (w : World) (f root count : Int) : Below w.heap.size w (w.alloc (.cells #[.int .i64 f, .int .i64 root, .int .i64 count] 25)) := (Below.refl _ _).alloc (Nat.le_refl _) _
theorem LGot.lower {D : Prop} {b b' : Nat} {w' : World} {e : Ending} {R : List Int × Int} (h : LGot D b w' e R) (hb : b' ≤ b) : LGot D b' w' e R := by
  obtain ⟨v, l, he, ho, h1, h2⟩ := h
  exact ⟨v, l, he, Kd.R_lower ho hb, h1, h2⟩
theorem listed_in (H : Sh.Hp) (f root count : Int) (A : Option Addr) (c : Nat) (w : World) (o : Obj) (hC : Nodes w A H) (hL : ListsF H f) :
    Calls Tryz.prog 60 #[.slice A H.length c, shV f root count] (w.alloc o) fun e w' => LGot (¬ Digital f) w.heap.size w' e (Sh.listed H f root count) ∧ Below w.heap.size w w' := by
  refine (listed_calls H f root count A c (w.alloc o) (Kd.C_alloc hC _) hL).mono ?_
  rintro e w' ⟨h, hb⟩
  rw [World.size_alloc] at h hb
  exact ⟨h.lower (by omega), Below.trans ((Below.refl _ _).alloc (Nat.le_refl _) o) (hb.mono (by omega))⟩
set_option maxRecDepth 100000 in
set_option maxHeartbeats 1000000 in
theorem List_calls (H : Sh.Hp) (f root count : Int) (A : Option Addr) (c : Nat) (w : World) (hC : Nodes w A H) (hL : ListsF H f) :
    Calls Tryz.prog 16 #[.slice A H.length c, shV f root count] w fun e w' => LGot (¬ Digital f) w.heap.size w' e (Sh.listed H f root count) ∧ Below w.heap.size w w' := by
  have hcl := Lib.hid (listed_in H f root count A c w (.cells #[.int .i64 f, .int .i64 root, .int .i64 count] 25) hC hL)
  generalize Sh.listed H f root count = R at *
  clear hC hL
  go_enter Tryz.func16, Tryz.ntmps16
  go_wp2_with fail
  refine (hcl.out).mono ?_
  rintro e w1 ⟨⟨v, l, rfl, ho, h1, h2⟩, hb⟩
  replace ho := Lib.hid ho
  replace hb := Lib.hid hb
  go_wp2
  go_ret2
  exact ⟨⟨v, l, rfl, ho.out, h1, h2⟩, hb.out⟩
set_option maxRecDepth 100000 in
set_option maxHeartbeats 1000000 in
theorem Check_calls (H : Sh.Hp) (f root count : Int) (A : Option Addr) (c : Nat) (w : World) (hC : Nodes w A H) (hL : ListsF H f) :
    Calls Tryz.prog 22 #[.slice A H.length c, shV f root count] w fun e w' => e = .returned (.int .i64 (Sh.listed H f root count).2) ∧ Below w.heap.size w w' := by
  have hcl := Lib.hid (listed_in H f root count A c w (.cells #[.int .i64 f, .int .i64 root, .int .i64 count] 25) hC hL)
  generalize Sh.listed H f root count = R at *
  clear hC hL
  go_enter Tryz.func22, Tryz.ntmps22
  go_wp2_with fail
  refine (hcl.out).mono ?_
  rintro e w1 ⟨⟨v, l, rfl, ho, h1, h2⟩, hb⟩
  replace ho := Lib.hid ho
  replace hb := Lib.hid hb
  go_wp2
  go_ret
  exact ⟨rfl, hb.out⟩
namespace Sh
def sought (H : Hp) (f root count x : Int) : List Int × Int := if (listed H f root count).2 = 0 ∧ el x = false then ([], 2) else listed H f root count
end Sh
set_option maxRecDepth 100000 in
set_option maxHeartbeats 1000000 in
theorem sought_calls (H : Sh.Hp) (f root count x : Int) (A : Option Addr) (c : Nat) (w : World) (hC : Nodes w A H) (hL : ListsF H f) :
    Calls Tryz.prog 86 #[.slice A H.length c, shV f root count, .int .i64 x] w fun e w' => LGot (¬ Digital f) w.heap.size w' e (Sh.sought H f root count x) ∧ Below w.heap.size w w' := by
  have hcl := Lib.hid (listed_in H f root count A c w (.cells #[.int .i64 f, .int .i64 root, .int .i64 count] 25) hC hL)
  obtain ⟨S, hS⟩ : ∃ S, S = Sh.sought H f root count x := ⟨_, rfl⟩
  rw [← hS]
  unfold Sh.sought at hS
  generalize Sh.listed H f root count = R at *
  obtain ⟨R1, R2⟩ := R
  clear hC hL
  have hel := Lib.hid (fun W => element_at (w := W) x (b := Sh.el x) rfl)
  by_cases h0 : R2 = 0
  · subst h0
    cases he : Sh.el x
    · rw [if_pos ⟨rfl, he⟩] at hS
      subst hS
      rw [he] at hel
      go_enter Tryz.func86, Tryz.ntmps86
      go_wp2_with fail
      refine (hcl.out).mono ?_
      rintro e w1 ⟨⟨v, l, rfl, ho, h1, h2⟩, hb⟩
      replace hb := Lib.hid hb
      clear ho h1 h2
      go_wp2_with fail
      refine (hel.out _).mono ?_
      rintro e w2 ⟨rfl, rfl⟩
      go_wp2
      go_ret2
      exact ⟨⟨_, [], rfl, Kd.R_nil _ _ _ _ _, rfl, fun _ => rfl⟩, hb.out⟩
    · rw [if_neg (fun h => by rw [he] at h; exact absurd h.2 (by decide))] at hS
      subst hS
      rw [he] at hel
      go_enter Tryz.func86, Tryz.ntmps86
      go_wp2_with fail
      refine (hcl.out).mono ?_
      rintro e w1 ⟨⟨v, l, rfl, ho, h1, h2⟩, hb⟩
      replace ho := Lib.hid ho
      replace hb := Lib.hid hb
      replace h1 := Lib.hid h1
      go_wp2_with fail
      refine (hel.out _).mono ?_
      rintro e w2 ⟨rfl, rfl⟩
      go_wp2
      go_ret2
      exact ⟨⟨_, l, rfl, ho.out, h1.out, h2⟩, hb.out⟩
  · rw [if_neg (fun h => h0 h.1)] at hS
    subst hS
    have h0b : (R2 == 0) = false := beq_eq_false_iff_ne.mpr h0
    clear h0
    go_enter Tryz.func86, Tryz.ntmps86
    go_wp2_with fail
    refine (hcl.out).mono ?_
    rintro e w1 ⟨⟨v, l, rfl, ho, h1, h2⟩, hb⟩
    replace ho := Lib.hid ho
    replace hb := Lib.hid hb
    replace h1 := Lib.hid h1
    go_wp2
    go_ret2
    exact ⟨⟨_, l, rfl, ho.out, h1.out, h2⟩, hb.out⟩
end Go.Proofs.YtbfedeedicnedaaGreat
end
section
namespace Go.Proofs.YtbfedeedicnedaaGreat
open Go.RowKit
open Go.Proofs.YtbfedeedicnedaaGreatW.PrintWords
def FindsF (H : Sh.Hp) (f root x : Int) (b : Bool) (n : Nat) : Prop := ∀ (ty k : Nat), (ty = 154 ∧ k = 161 ∧ f = 1) ∨ (ty = 155 ∧ k = 166 ∧ f = 2) ∨ (ty = 119 ∧ k = 153 ∧ f = 3) ∨ (ty = 156 ∧ k = 179 ∧ f = 4) ∨ (ty = 157 ∧ k = 189 ∧ f = 5) → ∀ (A : Option Addr) (c : Nat) (w : World), Nodes w A H →
  Calls Tryz.prog k #[.agg #[], .slice A H.length c, .int .i64 root, .int .i64 x] w fun e w' => e = .returned (.tuple #[.bool b, .int .i64 n]) ∧ Below w.heap.size w w'
theorem sought_in (H : Sh.Hp) (f root count x : Int) (A : Option Addr) (c : Nat) (w : World) (o : Obj) (hC : Nodes w A H) (hL : ListsF H f) :
    Calls Tryz.prog 86 #[.slice A H.length c, shV f root count, .int .i64 x] (w.alloc o) fun e w' => LGot (¬ Digital f) w.heap.size w' e (Sh.sought H f root count x) ∧ Below w.heap.size w w' ∧ Below (w.alloc o).heap.size (w.alloc o) w' := by
  refine (sought_calls H f root count x A c (w.alloc o) (Kd.C_alloc hC _) hL).mono ?_
  rintro e w' ⟨h, hb⟩
  have hb2 := hb
  rw [World.size_alloc] at h hb
  exact ⟨h.lower (by omega), Below.trans ((Below.refl _ _).alloc (Nat.le_refl _) o) (hb.mono (by omega)), hb2⟩
set_option maxRecDepth 100000 in
set_option maxHeartbeats 1000000 in
theorem search_good (H : Sh.Hp) (f root count x : Int) (b : Bool) (n : Nat) (A : Option Addr) (c : Nat) (w : World) (hC : Nodes w A H) (hL : ListsF H f) (hs : (Sh.sought H f root count x).2 = 0) (h2 : 1 ≤ f) (h3 : f ≤ 5) (hF : FindsF H f root x b n) :
    Calls Tryz.prog 61 #[.slice A H.length c, shV f root count, .int .i64 x] w fun e w' => e = .returned (.tuple #[.bool b, .int .i64 n, .int .i64 0]) ∧ Below w.heap.size w w' := by
  have hcl := Lib.hid (sought_in H f root count x A c w (.cells #[.int .i64 f, .int .i64 root, .int .i64 count] 25) hC hL)
  generalize Sh.sought H f root count x = R at *
  obtain ⟨R1, R2⟩ := R
  replace hs : R2 = 0 := hs
  subst hs
  have hfo := Lib.hid (fun W => forms_calls W)
  clear hL
  have i0 : ∀ W : World, (Instr.index 134 (.agg #[.iface 154 (.agg #[]), .iface 155 (.agg #[]), .iface 119 (.agg #[]), .iface 156 (.agg #[]), .iface 157 (.agg #[])]) (.int .i64 0)).run Tryz.prog W = .ok (.iface 154 (.agg #[])) W := fun W => by kernel_rfl
  have i1 : ∀ W : World, (Instr.index 134 (.agg #[.iface 154 (.agg #[]), .iface 155 (.agg #[]), .iface 119 (.agg #[]), .iface 156 (.agg #[]), .iface 157 (.agg #[])]) (.int .i64 1)).run Tryz.prog W = .ok (.iface 155 (.agg #[])) W := fun W => by kernel_rfl
  have i2 : ∀ W : World, (Instr.index 134 (.agg #[.iface 154 (.agg #[]), .iface 155 (.agg #[]), .iface 119 (.agg #[]), .iface 156 (.agg #[]), .iface 157 (.agg #[])]) (.int .i64 2)).run Tryz.prog W = .ok (.iface 119 (.agg #[])) W := fun W => by kernel_rfl
  have i3 : ∀ W : World, (Instr.index 134 (.agg #[.iface 154 (.agg #[]), .iface 155 (.agg #[]), .iface 119 (.agg #[]), .iface 156 (.agg #[]), .iface 157 (.agg #[])]) (.int .i64 3)).run Tryz.prog W = .ok (.iface 156 (.agg #[])) W := fun W => by kernel_rfl
  have i4 : ∀ W : World, (Instr.index 134 (.agg #[.iface 154 (.agg #[]), .iface 155 (.agg #[]), .iface 119 (.agg #[]), .iface 156 (.agg #[]), .iface 157 (.agg #[])]) (.int .i64 4)).run Tryz.prog W = .ok (.iface 157 (.agg #[])) W := fun W => by kernel_rfl
  go_enter Tryz.func61, Tryz.ntmps61
  go_wp2_with fail
  refine (hcl.out).mono ?_
  rintro e w1 ⟨⟨v, l, rfl, ho, h1, h2'⟩, hb, hb2⟩
  replace ho := Lib.hid ho
  replace hb := Lib.hid hb
  go_wp2_with fail
  trace_state
  refine (hfo.out _).mono ?_
  rintro e w2 ⟨rfl, hb3⟩
  have hblk : w2.heap[w1.heap.size]? = some (.cells #[.nilFunc, .nilFunc, .nilFunc, .nilFunc, .nilFunc] 133 (0, 0)) := (hb3.block w1.heap.size (by rw [World.size_alloc]; omega)).trans (heap_alloc_new w1 _)
  have hc0 : w2.cell? ⟨w1.heap.size, 0, none⟩ = some .nilFunc := by rw [blk_cell hblk]; rfl
  have hc1 : w2.cell? ⟨w1.heap.size, 1, none⟩ = some .nilFunc := by rw [blk_cell hblk]; rfl
  have hc2 : w2.cell? ⟨w1.heap.size, 2, none⟩ = some .nilFunc := by rw [blk_cell hblk]; rfl
  have hc3 : w2.cell? ⟨w1.heap.size, 3, none⟩ = some .nilFunc := by rw [blk_cell hblk]; rfl
  have hc4 : w2.cell? ⟨w1.heap.size, 4, none⟩ = some .nilFunc := by rw [blk_cell hblk]; rfl
  have hfz : ∀ k, w2.frozen? ⟨w1.heap.size, k, none⟩ = false := fun k => blk_frozen hblk k
  go_wp2
  have hB5 := Lib.hid (show Below (w.heap.size + 1) (w.alloc (.cells #[.int .i64 f, .int .i64 root, .int .i64 count] 25)) w2 by
    have h5 : (w.alloc (.cells #[.int .i64 f, .int .i64 root, .int .i64 count] 25)).heap.size = w.heap.size + 1 := World.size_alloc _ _
    have h6 := hb2.size
    rw [h5] at hb2 h6
    exact (hb2.alloc h6 _).trans (hb3.mono (by rw [World.size_alloc]; omega)))
  have hg1 : w.heap.size + 1 ≤ w1.heap.size := by
    have h6 := hb2.size
    rwa [World.size_alloc] at h6
  clear hb2 hb3
  refine wp_loop_rounds 6 ?_
  rw [rounds_succ]
  go_wp2
  rw [rounds_succ]
  go_wp2
  rw [rounds_succ]
  go_wp2
  rw [rounds_succ]
  go_wp2
  rw [rounds_succ]
  go_wp2
  rw [rounds_succ]
  go_wp2
  clear hc0 hc1 hc2 hc3 hc4 hfz i0 i1 i2 i3 i4
  obtain ⟨W5, hW5⟩ : ∃ W5, W5 = (((((w2.setCell ⟨w1.heap.size, 0, none⟩ (.func (Fn.method "sward/shape.find") #[.iface 154 (.agg #[])] #[])).setCell ⟨w1.heap.size, 1, none⟩ (.func (Fn.method "sward/shape.find") #[.iface 155 (.agg #[])] #[])).setCell ⟨w1.heap.size, 2, none⟩ (.func (Fn.method "sward/shape.find") #[.iface 119 (.agg #[])] #[])).setCell ⟨w1.heap.size, 3, none⟩ (.func (Fn.method "sward/shape.find") #[.iface 156 (.agg #[])] #[])).setCell ⟨w1.heap.size, 4, none⟩ (.func (Fn.method "sward/shape.find") #[.iface 157 (.agg #[])] #[])) := ⟨_, rfl⟩
  rw [← hW5]
  have hblk5 : W5.heap[w1.heap.size]? = some (.cells #[.func (Fn.method "sward/shape.find") #[.iface 154 (.agg #[])] #[], .func (Fn.method "sward/shape.find") #[.iface 155 (.agg #[])] #[], .func (Fn.method "sward/shape.find") #[.iface 119 (.agg #[])] #[], .func (Fn.method "sward/shape.find") #[.iface 156 (.agg #[])] #[], .func (Fn.method "sward/shape.find") #[.iface 157 (.agg #[])] #[]] 133 (0, 0)) := by
    rw [hW5]
    exact blk_set (blk_set (blk_set (blk_set (blk_set hblk 0 _) 1 _) 2 _) 3 _) 4 _
  have hBb : Below (w.heap.size + 1) (w.alloc (.cells #[.int .i64 f, .int .i64 root, .int .i64 count] 25)) W5 := by
    rw [hW5]
    exact ((((hB5.out.setCell (p := ⟨w1.heap.size, 0, none⟩) hg1 _).setCell (p := ⟨w1.heap.size, 1, none⟩) hg1 _).setCell (p := ⟨w1.heap.size, 2, none⟩) hg1 _).setCell (p := ⟨w1.heap.size, 3, none⟩) hg1 _).setCell (p := ⟨w1.heap.size, 4, none⟩) hg1 _
  clear hW5 hblk hB5
  have hgs := Lib.hid (show w1.heap.size < W5.heap.size from blk_lt hblk5)
  have hq : ∀ W, Below (W5.heap.size) W5 W → W.cell? ⟨w.heap.size, 0, none⟩ = some (.int .i64 f) ∧ W.cell? ⟨w.heap.size, 1, none⟩ = some (.int .i64 root) ∧ (∀ k : Nat, W.cell? ⟨w1.heap.size, k, none⟩ = W5.cell? ⟨w1.heap.size, k, none⟩) := fun W hW => by
    have h5 : w.heap.size + 1 ≤ W5.heap.size := by have := hgs.out; omega
    refine ⟨?_, ?_, fun k => hW.cell (p := ⟨w1.heap.size, k, none⟩) hgs.out⟩
    all_goals
      rw [hW.cell (p := ⟨w.heap.size, _, none⟩) (by show w.heap.size < _; omega), hBb.cell (p := ⟨w.heap.size, _, none⟩) (by show w.heap.size < _; omega)]
      simp
  have hfc : ∀ k : Nat, W5.cell? ⟨w1.heap.size, k, none⟩ = (#[.func (Fn.method "sward/shape.find") #[.iface 154 (.agg #[])] #[], .func (Fn.method "sward/shape.find") #[.iface 155 (.agg #[])] #[], .func (Fn.method "sward/shape.find") #[.iface 119 (.agg #[])] #[], .func (Fn.method "sward/shape.find") #[.iface 156 (.agg #[])] #[], .func (Fn.method "sward/shape.find") #[.iface 157 (.agg #[])] #[]] : Array Value)[k]? := fun k => blk_cell hblk5 k
  have hNod := Lib.hid (fun W (hW : Below W5.heap.size W5 W) => (Kd.C_below hC (show Below w.heap.size w W from Below.trans ((Below.refl _ _).alloc (Nat.le_refl _) _) (Below.trans (hBb.mono (by omega)) (hW.mono (by have := hgs.out; omega)))) : Nodes W A H))
  have hBw := Lib.hid (fun W (hW : Below W5.heap.size W5 W) => (show Below w.heap.size w W from Below.trans ((Below.refl _ _).alloc (Nat.le_refl _) _) (Below.trans (hBb.mono (by omega)) (hW.mono (by have := hgs.out; omega)))))
  have hBd := Lib.hid (show Below W5.heap.size W5 W5.drew from (Below.refl _ _).drew)
  clear hBb hblk5 hC
  rcases five h2 h3 with rfl | rfl | rfl | rfl | rfl
  · have hcc := Lib.hid (fun W hW => (⟨hW, (hq W hW).1, (hq W hW).2.1, ((hq W hW).2.2 0).trans (hfc 0)⟩ : _ ∧ _ ∧ _ ∧ W.cell? ⟨w1.heap.size, 0, none⟩ = some (.func (Fn.method "sward/shape.find") #[.iface 154 (.agg #[])] #[])))
    have hls := Lib.hid (hF 154 161 (by omega))
    have hm : ∀ W : World, (method 312 154 (.agg #[]) "sward/shape.find").run Tryz.prog W = .ok (161, .agg #[]) W := fun _ => by kernel_rfl
    clear hq hfc hF
    have hwr : IntKind.i64.wrap (0 : Int) = 0 := by decide
    go_region_held3 (fun W' => Below W5.heap.size W5 W' ∧ W'.cell? ⟨w.heap.size, 0, none⟩ = some (.int .i64 1) ∧ W'.cell? ⟨w.heap.size, 1, none⟩ = some (.int .i64 root) ∧ W'.cell? ⟨w1.heap.size, 0, none⟩ = some (.func (Fn.method "sward/shape.find") #[.iface 154 (.agg #[])] #[]))
      (first
        | exact hcc.out _ (by assumption)
        | exact hcc.out _ hBd.out
        | fail)
      (first
        | (go_at_call 161; refine (hls.out _ _ _ ?hl).mono ?_; (case hl => first | exact hNod.out _ (by assumption) | exact hNod.out _ hBd.out); rintro e w4 ⟨rfl, hb2⟩; have hB4 : Below W5.heap.size W5 w4 := Below.trans hBd.out hb2; replace hb2 := Lib.hid hb2))
    have hBf := Lib.hid (hBw.out _ (show Below W5.heap.size W5 w4 from by assumption))
    go_wp2
    go_ret3
    exact ⟨rfl, hBf.out⟩
  · have hcc := Lib.hid (fun W hW => (⟨hW, (hq W hW).1, (hq W hW).2.1, ((hq W hW).2.2 1).trans (hfc 1)⟩ : _ ∧ _ ∧ _ ∧ W.cell? ⟨w1.heap.size, 1, none⟩ = some (.func (Fn.method "sward/shape.find") #[.iface 155 (.agg #[])] #[])))
    have hls := Lib.hid (hF 155 166 (by omega))
    have hm : ∀ W : World, (method 312 155 (.agg #[]) "sward/shape.find").run Tryz.prog W = .ok (166, .agg #[]) W := fun _ => by kernel_rfl
    clear hq hfc hF
    have hwr : IntKind.i64.wrap (1 : Int) = 1 := by decide
    go_region_held3 (fun W' => Below W5.heap.size W5 W' ∧ W'.cell? ⟨w.heap.size, 0, none⟩ = some (.int .i64 2) ∧ W'.cell? ⟨w.heap.size, 1, none⟩ = some (.int .i64 root) ∧ W'.cell? ⟨w1.heap.size, 1, none⟩ = some (.func (Fn.method "sward/shape.find") #[.iface 155 (.agg #[])] #[]))
      (first
        | exact hcc.out _ (by assumption)
        | exact hcc.out _ hBd.out
        | fail)
      (first
        | (go_at_call 166; refine (hls.out _ _ _ ?hl).mono ?_; (case hl => first | exact hNod.out _ (by assumption) | exact hNod.out _ hBd.out); rintro e w4 ⟨rfl, hb2⟩; have hB4 : Below W5.heap.size W5 w4 := Below.trans hBd.out hb2; replace hb2 := Lib.hid hb2))
    have hBf := Lib.hid (hBw.out _ (show Below W5.heap.size W5 w4 from by assumption))
    go_wp2
    go_ret3
    exact ⟨rfl, hBf.out⟩
  · have hcc := Lib.hid (fun W hW => (⟨hW, (hq W hW).1, (hq W hW).2.1, ((hq W hW).2.2 2).trans (hfc 2)⟩ : _ ∧ _ ∧ _ ∧ W.cell? ⟨w1.heap.size, 2, none⟩ = some (.func (Fn.method "sward/shape.find") #[.iface 119 (.agg #[])] #[])))
    have hls := Lib.hid (hF 119 153 (by omega))
    have hm : ∀ W : World, (method 312 119 (.agg #[]) "sward/shape.find").run Tryz.prog W = .ok (153, .agg #[]) W := fun _ => by kernel_rfl
    clear hq hfc hF
    have hwr : IntKind.i64.wrap (2 : Int) = 2 := by decide
    go_region_held3 (fun W' => Below W5.heap.size W5 W' ∧ W'.cell? ⟨w.heap.size, 0, none⟩ = some (.int .i64 3) ∧ W'.cell? ⟨w.heap.size, 1, none⟩ = some (.int .i64 root) ∧ W'.cell? ⟨w1.heap.size, 2, none⟩ = some (.func (Fn.method "sward/shape.find") #[.iface 119 (.agg #[])] #[]))
      (first
        | exact hcc.out _ (by assumption)
        | exact hcc.out _ hBd.out
        | fail)
      (first
        | (go_at_call 153; refine (hls.out _ _ _ ?hl).mono ?_; (case hl => first | exact hNod.out _ (by assumption) | exact hNod.out _ hBd.out); rintro e w4 ⟨rfl, hb2⟩; have hB4 : Below W5.heap.size W5 w4 := Below.trans hBd.out hb2; replace hb2 := Lib.hid hb2))
    have hBf := Lib.hid (hBw.out _ (show Below W5.heap.size W5 w4 from by assumption))
    go_wp2
    go_ret3
    exact ⟨rfl, hBf.out⟩
  · have hcc := Lib.hid (fun W hW => (⟨hW, (hq W hW).1, (hq W hW).2.1, ((hq W hW).2.2 3).trans (hfc 3)⟩ : _ ∧ _ ∧ _ ∧ W.cell? ⟨w1.heap.size, 3, none⟩ = some (.func (Fn.method "sward/shape.find") #[.iface 156 (.agg #[])] #[])))
    have hls := Lib.hid (hF 156 179 (by omega))
    have hm : ∀ W : World, (method 312 156 (.agg #[]) "sward/shape.find").run Tryz.prog W = .ok (179, .agg #[]) W := fun _ => by kernel_rfl
    clear hq hfc hF
    have hwr : IntKind.i64.wrap (3 : Int) = 3 := by decide
    go_region_held3 (fun W' => Below W5.heap.size W5 W' ∧ W'.cell? ⟨w.heap.size, 0, none⟩ = some (.int .i64 4) ∧ W'.cell? ⟨w.heap.size, 1, none⟩ = some (.int .i64 root) ∧ W'.cell? ⟨w1.heap.size, 3, none⟩ = some (.func (Fn.method "sward/shape.find") #[.iface 156 (.agg #[])] #[]))
      (first
        | exact hcc.out _ (by assumption)
        | exact hcc.out _ hBd.out
        | fail)
      (first
        | (go_at_call 179; refine (hls.out _ _ _ ?hl).mono ?_; (case hl => first | exact hNod.out _ (by assumption) | exact hNod.out _ hBd.out); rintro e w4 ⟨rfl, hb2⟩; have hB4 : Below W5.heap.size W5 w4 := Below.trans hBd.out hb2; replace hb2 := Lib.hid hb2))
    have hBf := Lib.hid (hBw.out _ (show Below W5.heap.size W5 w4 from by assumption))
    go_wp2
    go_ret3
    exact ⟨rfl, hBf.out⟩
  · have hcc := Lib.hid (fun W hW => (⟨hW, (hq W hW).1, (hq W hW).2.1, ((hq W hW).2.2 4).trans (hfc 4)⟩ : _ ∧ _ ∧ _ ∧ W.cell? ⟨w1.heap.size, 4, none⟩ = some (.func (Fn.method "sward/shape.find") #[.iface 157 (.agg #[])] #[])))
    have hls := Lib.hid (hF 157 189 (by omega))
    have hm : ∀ W : World, (method 312 157 (.agg #[]) "sward/shape.find").run Tryz.prog W = .ok (189, .agg #[]) W := fun _ => by kernel_rfl
    clear hq hfc hF
    have hwr : IntKind.i64.wrap (4 : Int) = 4 := by decide
    go_region_held3 (fun W' => Below W5.heap.size W5 W' ∧ W'.cell? ⟨w.heap.size, 0, none⟩ = some (.int .i64 5) ∧ W'.cell? ⟨w.heap.size, 1, none⟩ = some (.int .i64 root) ∧ W'.cell? ⟨w1.heap.size, 4, none⟩ = some (.func (Fn.method "sward/shape.find") #[.iface 157 (.agg #[])] #[]))
      (first
        | exact hcc.out _ (by assumption)
        | exact hcc.out _ hBd.out
        | fail)
      (first
        | (go_at_call 189; refine (hls.out _ _ _ ?hl).mono ?_; (case hl => first | exact hNod.out _ (by assumption) | exact hNod.out _ hBd.out); rintro e w4 ⟨rfl, hb2⟩; have hB4 : Below W5.heap.size W5 w4 := Below.trans hBd.out hb2; replace hb2 := Lib.hid hb2))
    have hBf := Lib.hid (hBw.out _ (show Below W5.heap.size W5 w4 from by assumption))
    go_wp2
    go_ret3
    exact ⟨rfl, hBf.out⟩
end Go.Proofs.YtbfedeedicnedaaGreat
end
