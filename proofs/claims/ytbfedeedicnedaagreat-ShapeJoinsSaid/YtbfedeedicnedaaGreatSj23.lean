/-
  Texts of this claim: ShR, ShT, ShU.
-/
import Derived.Test.YtbfedeedicnedaaGreatSj22
import Derived.Laws.EntriesVeiled
set_option linter.unusedVariables false
set_option linter.unusedSimpArgs false
set_option maxHeartbeats 8000000
set_option maxRecDepth 100000
section
namespace Go.Proofs.YtbfedeedicnedaaGreat
open Go.RowKit
open Go.Proofs.YtbfedeedicnedaaGreatW.PrintWords
abbrev shV (f root count : Int) : Value := .agg #[.int .i64 f, .int .i64 root, .int .i64 count]
theorem shape_box (w : World) (f root count : Int) : Below w.heap.size w (w.alloc (.cells #[.int .i64 f, .int .i64 root, .int .i64 count] 25)) := (Below.refl _ _).alloc (Nat.le_refl _) _
theorem LGot.lower {D : Prop} {b b' : Nat} {w' : World} {e : Ending} {R : List Int × Int} (h : LGot D b w' e R) (hb : b' ≤ b) : LGot D b' w' e R := by
  obtain ⟨v, l, he, ho, h1, h2⟩ := h
  exact ⟨v, l, he, Kd.R_lower ho hb, h1, h2⟩
theorem listed_in (H : Sh.Hp) (f root count : Int) (A : Option Addr) (c : Nat) (w : World) (o : Obj) (hC : Nodes w A H) (hL : ListsF H f) :
    Calls Tryz.prog 60 #[.slice A H.length c, shV f root count] (w.alloc o) fun e w' => LGot (¬ Digital f) w.heap.size w' e (Sh.listed H f root count) ∧ Below w.heap.size w w' := by
  refine (listed_calls H f root count A c (w.alloc o) (Kd.C_alloc hC _) hL).mono ?_
  rintro e w' ⟨h, hb⟩
  rw [World.size_alloc] at h hb
  exact ⟨h.lower (by omega), Below.trans ((Below.refl _ _).alloc (Nat.le_refl _) o) (hb.mono (by omega))⟩
theorem List_calls (H : Sh.Hp) (f root count : Int) (A : Option Addr) (c : Nat) (w : World) (hC : Nodes w A H) (hL : ListsF H f) :
    Calls Tryz.prog 16 #[.slice A H.length c, shV f root count] w fun e w' => LGot (¬ Digital f) w.heap.size w' e (Sh.listed H f root count) ∧ Below w.heap.size w w' := by
  have hcl := Lib.hid (listed_in H f root count A c w (.cells #[.int .i64 f, .int .i64 root, .int .i64 count] 25) hC hL)
  generalize Sh.listed H f root count = R at *
  clear hC hL
  go_enter Tryz.func16, Tryz.ntmps16
  go_wp2_with fail
  refine (hcl.out).mono ?_
  rintro e w1 ⟨⟨v, l, rfl, ho, h1, h2⟩, hb⟩
  replace ho := Lib.hid ho
  replace hb := Lib.hid hb
  go_wp2
  go_ret2
  exact ⟨⟨v, l, rfl, ho.out, h1, h2⟩, hb.out⟩
theorem Check_calls (H : Sh.Hp) (f root count : Int) (A : Option Addr) (c : Nat) (w : World) (hC : Nodes w A H) (hL : ListsF H f) :
    Calls Tryz.prog 22 #[.slice A H.length c, shV f root count] w fun e w' => e = .returned (.int .i64 (Sh.listed H f root count).2) ∧ Below w.heap.size w w' := by
  have hcl := Lib.hid (listed_in H f root count A c w (.cells #[.int .i64 f, .int .i64 root, .int .i64 count] 25) hC hL)
  generalize Sh.listed H f root count = R at *
  clear hC hL
  go_enter Tryz.func22, Tryz.ntmps22
  go_wp2_with fail
  refine (hcl.out).mono ?_
  rintro e w1 ⟨⟨v, l, rfl, ho, h1, h2⟩, hb⟩
  replace ho := Lib.hid ho
  replace hb := Lib.hid hb
  go_wp2
  go_ret
  exact ⟨rfl, hb.out⟩
namespace Sh
def sought (H : Hp) (f root count x : Int) : List Int × Int := if (listed H f root count).2 = 0 ∧ el x = false then ([], 2) else listed H f root count
end Sh
theorem sought_calls (H : Sh.Hp) (f root count x : Int) (A : Option Addr) (c : Nat) (w : World) (hC : Nodes w A H) (hL : ListsF H f) :
    Calls Tryz.prog 86 #[.slice A H.length c, shV f root count, .int .i64 x] w fun e w' => LGot (¬ Digital f) w.heap.size w' e (Sh.sought H f root count x) ∧ Below w.heap.size w w' := by
  have hcl := Lib.hid (listed_in H f root count A c w (.cells #[.int .i64 f, .int .i64 root, .int .i64 count] 25) hC hL)
  obtain ⟨S, hS⟩ : ∃ S, S = Sh.sought H f root count x := ⟨_, rfl⟩
  rw [← hS]
  unfold Sh.sought at hS
  generalize Sh.listed H f root count = R at *
  obtain ⟨R1, R2⟩ := R
  clear hC hL
  have hel := Lib.hid (fun W => element_at (w := W) x (b := Sh.el x) rfl)
  by_cases h0 : R2 = 0
  · subst h0
    cases he : Sh.el x
    · rw [if_pos ⟨rfl, he⟩] at hS
      subst hS
      rw [he] at hel
      go_enter Tryz.func86, Tryz.ntmps86
      go_wp2_with fail
      refine (hcl.out).mono ?_
      rintro e w1 ⟨⟨v, l, rfl, ho, h1, h2⟩, hb⟩
      replace hb := Lib.hid hb
      clear ho h1 h2
      go_wp2_with fail
      refine (hel.out _).mono ?_
      rintro e w2 ⟨rfl, rfl⟩
      go_wp2
      go_ret2
      exact ⟨⟨_, [], rfl, Kd.R_nil _ _ _ _ _, rfl, fun _ => rfl⟩, hb.out⟩
    · rw [if_neg (fun h => by rw [he] at h; exact absurd h.2 (by decide))] at hS
      subst hS
      rw [he] at hel
      go_enter Tryz.func86, Tryz.ntmps86
      go_wp2_with fail
      refine (hcl.out).mono ?_
      rintro e w1 ⟨⟨v, l, rfl, ho, h1, h2⟩, hb⟩
      replace ho := Lib.hid ho
      replace hb := Lib.hid hb
      replace h1 := Lib.hid h1
      go_wp2_with fail
      refine (hel.out _).mono ?_
      rintro e w2 ⟨rfl, rfl⟩
      go_wp2
      go_ret2
      exact ⟨⟨_, l, rfl, ho.out, h1.out, h2⟩, hb.out⟩
  · rw [if_neg (fun h => h0 h.1)] at hS
    subst hS
    have h0b : (R2 == 0) = false := beq_eq_false_iff_ne.mpr h0
    clear h0
    go_enter Tryz.func86, Tryz.ntmps86
    go_wp2_with fail
    refine (hcl.out).mono ?_
    rintro e w1 ⟨⟨v, l, rfl, ho, h1, h2⟩, hb⟩
    replace ho := Lib.hid ho
    replace hb := Lib.hid hb
    replace h1 := Lib.hid h1
    go_wp2
    go_ret2
    exact ⟨⟨_, l, rfl, ho.out, h1.out, h2⟩, hb.out⟩
end Go.Proofs.YtbfedeedicnedaaGreat
end
section
namespace Go.Proofs.YtbfedeedicnedaaGreat
open Go.RowKit
open Go.Proofs.YtbfedeedicnedaaGreatW.PrintWords
def FindsF (H : Sh.Hp) (f root x : Int) (b : Bool) (n : Nat) : Prop := ∀ (ty k : Nat), (ty = 154 ∧ k = 161 ∧ f = 1) ∨ (ty = 155 ∧ k = 166 ∧ f = 2) ∨ (ty = 119 ∧ k = 153 ∧ f = 3) ∨ (ty = 156 ∧ k = 179 ∧ f = 4) ∨ (ty = 157 ∧ k = 189 ∧ f = 5) → ∀ (A : Option Addr) (c : Nat) (w : World), Nodes w A H →
  Calls Tryz.prog k #[.agg #[], .slice A H.length c, .int .i64 root, .int .i64 x] w fun e w' => e = .returned (.tuple #[.bool b, .int .i64 n]) ∧ Below w.heap.size w w'
theorem sought_in (H : Sh.Hp) (f root count x : Int) (A : Option Addr) (c : Nat) (w : World) (o : Obj) (hC : Nodes w A H) (hL : ListsF H f) :
    Calls Tryz.prog 86 #[.slice A H.length c, shV f root count, .int .i64 x] (w.alloc o) fun e w' => LGot (¬ Digital f) w.heap.size w' e (Sh.sought H f root count x) ∧ Below w.heap.size w w' ∧ Below (w.alloc o).heap.size (w.alloc o) w' := by
  refine (sought_calls H f root count x A c (w.alloc o) (Kd.C_alloc hC _) hL).mono ?_
  rintro e w' ⟨h, hb⟩
  have hb2 := hb
  rw [World.size_alloc] at h hb
  exact ⟨h.lower (by omega), Below.trans ((Below.refl _ _).alloc (Nat.le_refl _) o) (hb.mono (by omega)), hb2⟩
theorem search_good (H : Sh.Hp) (f root count x : Int) (b : Bool) (n : Nat) (A : Option Addr) (c : Nat) (w : World) (hC : Nodes w A H) (hL : ListsF H f) (hs : (Sh.sought H f root count x).2 = 0) (h2 : 1 ≤ f) (h3 : f ≤ 5) (hF : FindsF H f root x b n) :
    Calls Tryz.prog 61 #[.slice A H.length c, shV f root count, .int .i64 x] w fun e w' => e = .returned (.tuple #[.bool b, .int .i64 n, .int .i64 0]) ∧ Below w.heap.size w w' := by
  have hcl := Lib.hid (sought_in H f root count x A c w (.cells #[.int .i64 f, .int .i64 root, .int .i64 count] 25) hC hL)
  generalize Sh.sought H f root count x = R at *
  obtain ⟨R1, R2⟩ := R
  replace hs : R2 = 0 := hs
  subst hs
  have hfo := Lib.hid (fun W => forms_calls W)
  clear hL
  have i0 : ∀ W : World, (Instr.index 134 (.agg #[.iface 154 (.agg #[]), .iface 155 (.agg #[]), .iface 119 (.agg #[]), .iface 156 (.agg #[]), .iface 157 (.agg #[])]) (.int .i64 0)).run Tryz.prog W = .ok (.iface 154 (.agg #[])) W := fun W => by kernel_rfl
  have i1 : ∀ W : World, (Instr.index 134 (.agg #[.iface 154 (.agg #[]), .iface 155 (.agg #[]), .iface 119 (.agg #[]), .iface 156 (.agg #[]), .iface 157 (.agg #[])]) (.int .i64 1)).run Tryz.prog W = .ok (.iface 155 (.agg #[])) W := fun W => by kernel_rfl
  have i2 : ∀ W : World, (Instr.index 134 (.agg #[.iface 154 (.agg #[]), .iface 155 (.agg #[]), .iface 119 (.agg #[]), .iface 156 (.agg #[]), .iface 157 (.agg #[])]) (.int .i64 2)).run Tryz.prog W = .ok (.iface 119 (.agg #[])) W := fun W => by kernel_rfl
  have i3 : ∀ W : World, (Instr.index 134 (.agg #[.iface 154 (.agg #[]), .iface 155 (.agg #[]), .iface 119 (.agg #[]), .iface 156 (.agg #[]), .iface 157 (.agg #[])]) (.int .i64 3)).run Tryz.prog W = .ok (.iface 156 (.agg #[])) W := fun W => by kernel_rfl
  have i4 : ∀ W : World, (Instr.index 134 (.agg #[.iface 154 (.agg #[]), .iface 155 (.agg #[]), .iface 119 (.agg #[]), .iface 156 (.agg #[]), .iface 157 (.agg #[])]) (.int .i64 4)).run Tryz.prog W = .ok (.iface 157 (.agg #[])) W := fun W => by kernel_rfl
  go_enter Tryz.func61, Tryz.ntmps61
  go_wp2_with fail
  refine (hcl.out).mono ?_
  rintro e w1 ⟨⟨v, l, rfl, ho, h1, h2'⟩, hb, hb2⟩
  replace ho := Lib.hid ho
  replace hb := Lib.hid hb
  go_wp2_with fail
  trace_state
  refine (hfo.out _).mono ?_
  rintro e w2 ⟨rfl, hb3⟩
  have hblk : w2.heap[w1.heap.size]? = some (.cells #[.nilFunc, .nilFunc, .nilFunc, .nilFunc, .nilFunc] 133 (0, 0)) := (hb3.block w1.heap.size (by rw [World.size_alloc]; omega)).trans (heap_alloc_new w1 _)
  have hc0 : w2.cell? ⟨w1.heap.size, 0, none⟩ = some .nilFunc := by rw [blk_cell hblk]; rfl
  have hc1 : w2.cell? ⟨w1.heap.size, 1, none⟩ = some .nilFunc := by rw [blk_cell hblk]; rfl
  have hc2 : w2.cell? ⟨w1.heap.size, 2, none⟩ = some .nilFunc := by rw [blk_cell hblk]; rfl
  have hc3 : w2.cell? ⟨w1.heap.size, 3, none⟩ = some .nilFunc := by rw [blk_cell hblk]; rfl
  have hc4 : w2.cell? ⟨w1.heap.size, 4, none⟩ = some .nilFunc := by rw [blk_cell hblk]; rfl
  have hfz : ∀ k, w2.frozen? ⟨w1.heap.size, k, none⟩ = false := fun k => blk_frozen hblk k
  go_wp2
  have hB5 := Lib.hid (show Below (w.heap.size + 1) (w.alloc (.cells #[.int .i64 f, .int .i64 root, .int .i64 count] 25)) w2 by
    have h5 : (w.alloc (.cells #[.int .i64 f, .int .i64 root, .int .i64 count] 25)).heap.size = w.heap.size + 1 := World.size_alloc _ _
    have h6 := hb2.size
    rw [h5] at hb2 h6
    exact (hb2.alloc h6 _).trans (hb3.mono (by rw [World.size_alloc]; omega)))
  have hg1 : w.heap.size + 1 ≤ w1.heap.size := by
    have h6 := hb2.size
    rwa [World.size_alloc] at h6
  clear hb2 hb3
  refine wp_loop_rounds 6 ?_
  rw [rounds_succ]
  go_wp2
  rw [rounds_succ]
  go_wp2
  rw [rounds_succ]
  go_wp2
  rw [rounds_succ]
  go_wp2
  rw [rounds_succ]
  go_wp2
  rw [rounds_succ]
  go_wp2
  clear hc0 hc1 hc2 hc3 hc4 hfz i0 i1 i2 i3 i4
  obtain ⟨W5, hW5⟩ : ∃ W5, W5 = (((((w2.setCell ⟨w1.heap.size, 0, none⟩ (.func (Fn.method "sward/shape.find") #[.iface 154 (.agg #[])] #[])).setCell ⟨w1.heap.size, 1, none⟩ (.func (Fn.method "sward/shape.find") #[.iface 155 (.agg #[])] #[])).setCell ⟨w1.heap.size, 2, none⟩ (.func (Fn.method "sward/shape.find") #[.iface 119 (.agg #[])] #[])).setCell ⟨w1.heap.size, 3, none⟩ (.func (Fn.method "sward/shape.find") #[.iface 156 (.agg #[])] #[])).setCell ⟨w1.heap.size, 4, none⟩ (.func (Fn.method "sward/shape.find") #[.iface 157 (.agg #[])] #[])) := ⟨_, rfl⟩
  rw [← hW5]
  have hblk5 : W5.heap[w1.heap.size]? = some (.cells #[.func (Fn.method "sward/shape.find") #[.iface 154 (.agg #[])] #[], .func (Fn.method "sward/shape.find") #[.iface 155 (.agg #[])] #[], .func (Fn.method "sward/shape.find") #[.iface 119 (.agg #[])] #[], .func (Fn.method "sward/shape.find") #[.iface 156 (.agg #[])] #[], .func (Fn.method "sward/shape.find") #[.iface 157 (.agg #[])] #[]] 133 (0, 0)) := by
    rw [hW5]
    exact blk_set (blk_set (blk_set (blk_set (blk_set hblk 0 _) 1 _) 2 _) 3 _) 4 _
  have hBb : Below (w.heap.size + 1) (w.alloc (.cells #[.int .i64 f, .int .i64 root, .int .i64 count] 25)) W5 := by
    rw [hW5]
    exact ((((hB5.out.setCell (p := ⟨w1.heap.size, 0, none⟩) hg1 _).setCell (p := ⟨w1.heap.size, 1, none⟩) hg1 _).setCell (p := ⟨w1.heap.size, 2, none⟩) hg1 _).setCell (p := ⟨w1.heap.size, 3, none⟩) hg1 _).setCell (p := ⟨w1.heap.size, 4, none⟩) hg1 _
  clear hW5 hblk hB5
  have hgs := Lib.hid (show w1.heap.size < W5.heap.size from blk_lt hblk5)
  have hq : ∀ W, Below (W5.heap.size) W5 W → W.cell? ⟨w.heap.size, 0, none⟩ = some (.int .i64 f) ∧ W.cell? ⟨w.heap.size, 1, none⟩ = some (.int .i64 root) ∧ (∀ k : Nat, W.cell? ⟨w1.heap.size, k, none⟩ = W5.cell? ⟨w1.heap.size, k, none⟩) := fun W hW => by
    have h5 : w.heap.size + 1 ≤ W5.heap.size := by have := hgs.out; omega
    refine ⟨?_, ?_, fun k => hW.cell (p := ⟨w1.heap.size, k, none⟩) hgs.out⟩
    all_goals
      rw [hW.cell (p := ⟨w.heap.size, _, none⟩) (by show w.heap.size < _; omega), hBb.cell (p := ⟨w.heap.size, _, none⟩) (by show w.heap.size < _; omega)]
      simp
  have hfc : ∀ k : Nat, W5.cell? ⟨w1.heap.size, k, none⟩ = (#[.func (Fn.method "sward/shape.find") #[.iface 154 (.agg #[])] #[], .func (Fn.method "sward/shape.find") #[.iface 155 (.agg #[])] #[], .func (Fn.method "sward/shape.find") #[.iface 119 (.agg #[])] #[], .func (Fn.method "sward/shape.find") #[.iface 156 (.agg #[])] #[], .func (Fn.method "sward/shape.find") #[.iface 157 (.agg #[])] #[]] : Array Value)[k]? := fun k => blk_cell hblk5 k
  have hNod := Lib.hid (fun W (hW : Below W5.heap.size W5 W) => (Kd.C_below hC (show Below w.heap.size w W from Below.trans ((Below.refl _ _).alloc (Nat.le_refl _) _) (Below.trans (hBb.mono (by omega)) (hW.mono (by have := hgs.out; omega)))) : Nodes W A H))
  have hBw := Lib.hid (fun W (hW : Below W5.heap.size W5 W) => (show Below w.heap.size w W from Below.trans ((Below.refl _ _).alloc (Nat.le_refl _) _) (Below.trans (hBb.mono (by omega)) (hW.mono (by have := hgs.out; omega)))))
  have hBd := Lib.hid (show Below W5.heap.size W5 W5.drew from (Below.refl _ _).drew)
  clear hBb hblk5 hC
  rcases five h2 h3 with rfl | rfl | rfl | rfl | rfl
  · have hcc := Lib.hid (fun W hW => (⟨hW, (hq W hW).1, (hq W hW).2.1, ((hq W hW).2.2 0).trans (hfc 0)⟩ : _ ∧ _ ∧ _ ∧ W.cell? ⟨w1.heap.size, 0, none⟩ = some (.func (Fn.method "sward/shape.find") #[.iface 154 (.agg #[])] #[])))
    have hls := Lib.hid (hF 154 161 (by omega))
    have hm : ∀ W : World, (method 312 154 (.agg #[]) "sward/shape.find").run Tryz.prog W = .ok (161, .agg #[]) W := fun _ => by kernel_rfl
    clear hq hfc hF
    have hwr : IntKind.i64.wrap (0 : Int) = 0 := by decide
    go_region_held3 (fun W' => Below W5.heap.size W5 W' ∧ W'.cell? ⟨w.heap.size, 0, none⟩ = some (.int .i64 1) ∧ W'.cell? ⟨w.heap.size, 1, none⟩ = some (.int .i64 root) ∧ W'.cell? ⟨w1.heap.size, 0, none⟩ = some (.func (Fn.method "sward/shape.find") #[.iface 154 (.agg #[])] #[]))
      (first
        | exact hcc.out _ (by assumption)
        | exact hcc.out _ hBd.out
        | fail)
      (first
        | (go_at_call 161; refine (hls.out _ _ _ ?hl).mono ?_; (case hl => first | exact hNod.out _ (by assumption) | exact hNod.out _ hBd.out); rintro e w4 ⟨rfl, hb2⟩; have hB4 : Below W5.heap.size W5 w4 := Below.trans hBd.out hb2; replace hb2 := Lib.hid hb2))
    have hBf := Lib.hid (hBw.out _ (show Below W5.heap.size W5 w4 from by assumption))
    go_wp2
    go_ret3
    exact ⟨rfl, hBf.out⟩
  · have hcc := Lib.hid (fun W hW => (⟨hW, (hq W hW).1, (hq W hW).2.1, ((hq W hW).2.2 1).trans (hfc 1)⟩ : _ ∧ _ ∧ _ ∧ W.cell? ⟨w1.heap.size, 1, none⟩ = some (.func (Fn.method "sward/shape.find") #[.iface 155 (.agg #[])] #[])))
    have hls := Lib.hid (hF 155 166 (by omega))
    have hm : ∀ W : World, (method 312 155 (.agg #[]) "sward/shape.find").run Tryz.prog W = .ok (166, .agg #[]) W := fun _ => by kernel_rfl
    clear hq hfc hF
    have hwr : IntKind.i64.wrap (1 : Int) = 1 := by decide
    go_region_held3 (fun W' => Below W5.heap.size W5 W' ∧ W'.cell? ⟨w.heap.size, 0, none⟩ = some (.int .i64 2) ∧ W'.cell? ⟨w.heap.size, 1, none⟩ = some (.int .i64 root) ∧ W'.cell? ⟨w1.heap.size, 1, none⟩ = some (.func (Fn.method "sward/shape.find") #[.iface 155 (.agg #[])] #[]))
      (first
        | exact hcc.out _ (by assumption)
        | exact hcc.out _ hBd.out
        | fail)
      (first
        | (go_at_call 166; refine (hls.out _ _ _ ?hl).mono ?_; (case hl => first | exact hNod.out _ (by assumption) | exact hNod.out _ hBd.out); rintro e w4 ⟨rfl, hb2⟩; have hB4 : Below W5.heap.size W5 w4 := Below.trans hBd.out hb2; replace hb2 := Lib.hid hb2))
    have hBf := Lib.hid (hBw.out _ (show Below W5.heap.size W5 w4 from by assumption))
    go_wp2
    go_ret3
    exact ⟨rfl, hBf.out⟩
  · have hcc := Lib.hid (fun W hW => (⟨hW, (hq W hW).1, (hq W hW).2.1, ((hq W hW).2.2 2).trans (hfc 2)⟩ : _ ∧ _ ∧ _ ∧ W.cell? ⟨w1.heap.size, 2, none⟩ = some (.func (Fn.method "sward/shape.find") #[.iface 119 (.agg #[])] #[])))
    have hls := Lib.hid (hF 119 153 (by omega))
    have hm : ∀ W : World, (method 312 119 (.agg #[]) "sward/shape.find").run Tryz.prog W = .ok (153, .agg #[]) W := fun _ => by kernel_rfl
    clear hq hfc hF
    have hwr : IntKind.i64.wrap (2 : Int) = 2 := by decide
    go_region_held3 (fun W' => Below W5.heap.size W5 W' ∧ W'.cell? ⟨w.heap.size, 0, none⟩ = some (.int .i64 3) ∧ W'.cell? ⟨w.heap.size, 1, none⟩ = some (.int .i64 root) ∧ W'.cell? ⟨w1.heap.size, 2, none⟩ = some (.func (Fn.method "sward/shape.find") #[.iface 119 (.agg #[])] #[]))
      (first
        | exact hcc.out _ (by assumption)
        | exact hcc.out _ hBd.out
        | fail)
      (first
        | (go_at_call 153; refine (hls.out _ _ _ ?hl).mono ?_; (case hl => first | exact hNod.out _ (by assumption) | exact hNod.out _ hBd.out); rintro e w4 ⟨rfl, hb2⟩; have hB4 : Below W5.heap.size W5 w4 := Below.trans hBd.out hb2; replace hb2 := Lib.hid hb2))
    have hBf := Lib.hid (hBw.out _ (show Below W5.heap.size W5 w4 from by assumption))
    go_wp2
    go_ret3
    exact ⟨rfl, hBf.out⟩
  · have hcc := Lib.hid (fun W hW => (⟨hW, (hq W hW).1, (hq W hW).2.1, ((hq W hW).2.2 3).trans (hfc 3)⟩ : _ ∧ _ ∧ _ ∧ W.cell? ⟨w1.heap.size, 3, none⟩ = some (.func (Fn.method "sward/shape.find") #[.iface 156 (.agg #[])] #[])))
    have hls := Lib.hid (hF 156 179 (by omega))
    have hm : ∀ W : World, (method 312 156 (.agg #[]) "sward/shape.find").run Tryz.prog W = .ok (179, .agg #[]) W := fun _ => by kernel_rfl
    clear hq hfc hF
    have hwr : IntKind.i64.wrap (3 : Int) = 3 := by decide
    go_region_held3 (fun W' => Below W5.heap.size W5 W' ∧ W'.cell? ⟨w.heap.size, 0, none⟩ = some (.int .i64 4) ∧ W'.cell? ⟨w.heap.size, 1, none⟩ = some (.int .i64 root) ∧ W'.cell? ⟨w1.heap.size, 3, none⟩ = some (.func (Fn.method "sward/shape.find") #[.iface 156 (.agg #[])] #[]))
      (first
        | exact hcc.out _ (by assumption)
        | exact hcc.out _ hBd.out
        | fail)
      (first
        | (go_at_call 179; refine (hls.out _ _ _ ?hl).mono ?_; (case hl => first | exact hNod.out _ (by assumption) | exact hNod.out _ hBd.out); rintro e w4 ⟨rfl, hb2⟩; have hB4 : Below W5.heap.size W5 w4 := Below.trans hBd.out hb2; replace hb2 := Lib.hid hb2))
    have hBf := Lib.hid (hBw.out _ (show Below W5.heap.size W5 w4 from by assumption))
    go_wp2
    go_ret3
    exact ⟨rfl, hBf.out⟩
  · have hcc := Lib.hid (fun W hW => (⟨hW, (hq W hW).1, (hq W hW).2.1, ((hq W hW).2.2 4).trans (hfc 4)⟩ : _ ∧ _ ∧ _ ∧ W.cell? ⟨w1.heap.size, 4, none⟩ = some (.func (Fn.method "sward/shape.find") #[.iface 157 (.agg #[])] #[])))
    have hls := Lib.hid (hF 157 189 (by omega))
    have hm : ∀ W : World, (method 312 157 (.agg #[]) "sward/shape.find").run Tryz.prog W = .ok (189, .agg #[]) W := fun _ => by kernel_rfl
    clear hq hfc hF
    have hwr : IntKind.i64.wrap (4 : Int) = 4 := by decide
    go_region_held3 (fun W' => Below W5.heap.size W5 W' ∧ W'.cell? ⟨w.heap.size, 0, none⟩ = some (.int .i64 5) ∧ W'.cell? ⟨w.heap.size, 1, none⟩ = some (.int .i64 root) ∧ W'.cell? ⟨w1.heap.size, 4, none⟩ = some (.func (Fn.method "sward/shape.find") #[.iface 157 (.agg #[])] #[]))
      (first
        | exact hcc.out _ (by assumption)
        | exact hcc.out _ hBd.out
        | fail)
      (first
        | (go_at_call 189; refine (hls.out _ _ _ ?hl).mono ?_; (case hl => first | exact hNod.out _ (by assumption) | exact hNod.out _ hBd.out); rintro e w4 ⟨rfl, hb2⟩; have hB4 : Below W5.heap.size W5 w4 := Below.trans hBd.out hb2; replace hb2 := Lib.hid hb2))
    have hBf := Lib.hid (hBw.out _ (show Below W5.heap.size W5 w4 from by assumption))
    go_wp2
    go_ret3
    exact ⟨rfl, hBf.out⟩
end Go.Proofs.YtbfedeedicnedaaGreat
end
section
namespace Go.Proofs.YtbfedeedicnedaaGreat
open Go.RowKit
open Go.Proofs.YtbfedeedicnedaaGreatW.PrintWords
namespace Sh
def walkR (H : Hp) : Nat → Int → List Bool → Option (List Bool)
  | 0, _, _ => none
  | g + 1, n, bs =>
    if n < 0 then some bs
    else if (H.length : Int) ≤ n then none
    else if bs.getD n.toNat false then some bs
    else (nd H n).2.foldl (fun acc k => acc.bind fun o => walkR H g k o) (some (bs.set n.toNat true))
theorem foldl_none {α β : Type} (f : α → β → Option β) (l : List α) : l.foldl (fun acc k => acc.bind fun o => f k o) none = none := by
  induction l with
  | nil => rfl
  | cons a l ih => exact ih
end Sh
structure Marks (w0 : World) (bo bh bw g : Nat) (A : Option Addr) (c : Nat) (H : Sh.Hp) (W : World) (bs : List Bool) : Prop where
  below : Below w0.heap.size w0 W
  len : bs.length = H.length
  out : W.cell? ⟨bo, 0, none⟩ = some (.slice (some ⟨g, 0, none⟩) H.length H.length)
  row : W.heap[g]? = some (.cells (bs.map Value.bool).toArray 4 (0, 0))
  heap : W.cell? ⟨bh, 0, none⟩ = some (.slice A H.length c)
  walk : W.cell? ⟨bw, 0, none⟩ = some (.func (.func 101) #[] #[.pointer (some ⟨bo, 0, none⟩), .pointer (some ⟨bh, 0, none⟩), .pointer (some ⟨bw, 0, none⟩)])
  base : w0.heap.size ≤ g
  ne1 : g ≠ bo
  ne2 : g ≠ bh
  ne3 : g ≠ bw
theorem cell_far {W : World} {p : Addr} {q : Addr} (h : q.block ≠ p.block) (v : Value) : (W.setCell p v).cell? q = W.cell? q :=
  World.cell?_of_block (w := W) (Below.heap_setCell W p v q.block h)
theorem Marks.set {w0 : World} {bo bh bw g : Nat} {A : Option Addr} {c : Nat} {H : Sh.Hp} {W : World} {bs : List Bool} (h : Marks w0 bo bh bw g A c H W bs) (i : Nat) :
    Marks w0 bo bh bw g A c H (W.setCell ⟨g, i, none⟩ (.bool true)) (bs.set i true) where
  below := h.below.setCell (p := ⟨g, i, none⟩) h.base _
  len := by rw [List.length_set]; exact h.len
  out := by rw [cell_far (Ne.symm h.ne1)]; exact h.out
  row := by
    have := blk_set h.row i (.bool true)
    rw [this]
    congr 2
    simp [List.map_set]
  heap := by rw [cell_far (Ne.symm h.ne2)]; exact h.heap
  walk := by rw [cell_far (Ne.symm h.ne3)]; exact h.walk
  base := h.base
  ne1 := h.ne1
  ne2 := h.ne2
  ne3 := h.ne3
theorem Marks.cell {w0 : World} {bo bh bw g : Nat} {A : Option Addr} {c : Nat} {H : Sh.Hp} {W : World} {bs : List Bool} (h : Marks w0 bo bh bw g A c H W bs) (i : Nat) (hi : i < H.length) :
    W.cell? ⟨g, i, none⟩ = some (.bool (bs.getD i false)) := by
  have hl := h.len
  rw [blk_cell h.row i]
  simp [List.getD_eq_getElem?_getD, List.getElem?_eq_getElem (show i < bs.length by omega)]
theorem mark_calls (w0 : World) (bo bh bw g : Nat) (A : Option Addr) (c : Nat) (H : Sh.Hp) (hC : Nodes w0 A H) (hbig : ∀ p ∈ H, p.2.length ≤ 1000000) :
    ∀ (fuel : Nat) (n : Int) (bs bs' : List Bool) (W : World), Marks w0 bo bh bw g A c H W bs → Sh.walkR H fuel n bs = some bs' →
    Calls Tryz.prog 101 #[.int .i64 n, .pointer (some ⟨bo, 0, none⟩), .pointer (some ⟨bh, 0, none⟩), .pointer (some ⟨bw, 0, none⟩)] W fun e w' => e = .returned (.tuple #[]) ∧ Marks w0 bo bh bw g A c H w' bs' := by
  intro fuel
  induction fuel with
  | zero => intro n bs bs' W hM h; exact absurd h (by simp [Sh.walkR])
  | succ fuel ih =>
    intro n bs bs' W hM h
    unfold Sh.walkR at h
    have hMh := Lib.hid hM
    by_cases c1 : n < 0
    · rw [if_pos c1] at h
      obtain rfl := Option.some.inj h
      clear ih
      go_enter Tryz.func101, Tryz.ntmps101
      go_wp2
      refine bodyPost_ret (results_none rfl _ _ _) rfl ?_
      exact ⟨rfl, hMh.out⟩
    rw [if_neg c1] at h
    by_cases c2 : (H.length : Int) ≤ n
    · rw [if_pos c2] at h; exact absurd h (by simp)
    rw [if_neg c2] at h
    obtain ⟨i, rfl⟩ := Int.eq_ofNat_of_zero_le (show 0 ≤ n by omega)
    rw [Int.toNat_natCast] at h
    have hi : i < H.length := by omega
    have u1 := hM.out
    have u2 := hM.cell i hi
    by_cases c3 : bs.getD i false = true
    · rw [if_pos c3] at h
      rw [c3] at u2
      obtain rfl := Option.some.inj h
      clear ih c3 hM
      go_enter Tryz.func101, Tryz.ntmps101
      go_wp2
      refine bodyPost_ret (results_none rfl _ _ _) rfl ?_
      exact ⟨rfl, hMh.out⟩
    rw [if_neg c3] at h
    have c3' : bs.getD i false = false := by simpa using c3
    rw [c3'] at u2
    have u3 := blk_frozen hM.row i
    have hM2 := Lib.hid (hM.set i)
    have v1 := hM2.out.heap
    obtain ⟨ad, A0, c0, A1, c1, rfl, d0, d1, l0, g0, l1, g1⟩ := hC.at i (by omega) (by omega)
    replace d1 := pw_cell_below hM2.out.below d1
    simp only [Int.toNat_natCast] at d1
    have hsm := hbig _ (List.mem_of_getElem? (Sh.nd_there (Sh.there_iff.2 ⟨show (0 : Int) ≤ (i : Int) by omega, by omega⟩)))
    generalize (Sh.nd H (i : Int)).2 = ks at *
    obtain ⟨m, hm⟩ : ∃ m, m = ks.length := ⟨_, rfl⟩
    rw [← hm] at d1 hsm l1 g1
    replace hm := Lib.hid hm
    replace h := Lib.hid h
    have ihh := Lib.hid ih
    have hgk := Lib.hid (g1)
    clear ih hM c3 c3' g0 d0 g1
    go_enter Tryz.func101, Tryz.ntmps101
    go_wp2
    go_loopg [24] m (fun gg v24 wr => ∃ (j : Nat) (bj : List Bool), v24 = .int .i64 j ∧ j ≤ m ∧ Hid (gg + j = m) ∧ Hid (Marks w0 bo bh bw g (some ad) c H wr bj) ∧ Hid ((ks.drop j).foldl (fun acc k => acc.bind fun o => Sh.walkR H fuel k o) (some bj) = some bs'))
    case atStart => exact ⟨0, _, rfl, Nat.zero_le _, Lib.hid rfl, hM2, Lib.hid h.out⟩
    case round =>
      obtain ⟨j, bj, rfl, hj, hg, hMj, hf⟩ := hrel
      by_cases hlt : j < m
      · obtain ⟨ad1, rfl, e0⟩ := at_int (Kd.C_below hgk.out hMj.out.below) j (by omega) (by omega)
        rw [Int.toNat_natCast] at e0
        have hf2 := hf.out
        rw [Sh.drop_at' ks j (by have := hm.out; omega)] at hf2
        obtain ⟨k, hk⟩ : ∃ k, k = Sh.gi ks j := ⟨_, rfl⟩
        rw [← hk] at e0 hf2
        replace hk := Lib.hid hk
        rw [List.foldl_cons, Option.bind_some] at hf2
        obtain ⟨b2, hb2⟩ : ∃ b2, Sh.walkR H fuel k bj = some b2 := by
          rcases hq : Sh.walkR H fuel k bj with _ | b2
          · rw [hq, Sh.foldl_none] at hf2
            exact absurd hf2 (by simp)
          · exact ⟨b2, rfl⟩
        rw [hb2] at hf2
        have hcl := Lib.hid (ihh.out k bj b2 wr hMj.out hb2)
        have hwk := hMj.out.walk
        replace hf2 := Lib.hid hf2
        clear hb2 hf hMj
        go_wp2_with fail
        refine (hcl.out).mono ?_
        rintro e w3 ⟨rfl, hM3⟩
        replace hM3 := Lib.hid hM3
        go_wp2
        go_roundg (m - (j + 1))
        case measure => have := hg.out; omega
        case rel => exact ⟨j + 1, b2, by go_num, by omega, Lib.hid (by omega), hM3, hf2⟩
      · have hbb : bj = bs' := by
          have := hf.out
          rw [List.drop_of_length_le (by have := hm.out; omega)] at this
          exact Option.some.inj this
        subst hbb
        go_wp2
        go_end0
        exact ⟨rfl, hMj.out⟩
theorem bool_info : ∃ i, Tryz.prog.info? 4 = some i ∧ i.zero = some (.bool false) ∧ i.size = 1 ∧ i.bytes = 1 := by
  have h : (Tryz.prog.info? 4).map (fun i => (i.zero, i.size, i.bytes)) = some (some (.bool false), 1, 1) := by kernel_rfl
  obtain ⟨i, hi, hz⟩ := Option.map_eq_some_iff.1 h
  simp only [Prod.mk.injEq] at hz
  exact ⟨i, hi, hz.1, hz.2.1, hz.2.2⟩
theorem made_bools (n : Nat) : madeCells (Value.bool false).cells n = Array.replicate n (.bool false) := by
  apply Array.toList_inj.1
  rw [Array.toList_replicate]
  exact toList_madeCells_one _ _
theorem make_bools (W : World) (n : Nat) (hn : n ≤ 1000000) : (Instr.makeSlice 99 (.int .i64 n) (.int .i64 n)).run Tryz.prog W = .ok (.slice (some ⟨W.heap.size, 0, none⟩) n n) (W.alloc (.cells (Array.replicate n (.bool false)) 4)) := by
  obtain ⟨i, hi, hz, hs, hb⟩ := bool_info
  have := run_make (P := Tryz.prog) W 99 4 i (.bool false) Tryz.underlying99 hi hz .i64 .i64 n n (by omega) (Int.le_refl _) (by rw [hb]; omega) (by omega)
  rw [hs, Int.toNat_natCast, Nat.mul_one, made_bools] at this
  exact this
theorem marks_start (w : World) (A : Option Addr) (c : Nat) (H : Sh.Hp) :
    Marks w (w.heap.size + 1 + 1) w.heap.size (w.heap.size + 1 + 1 + 1) (w.heap.size + 1) A c H ((((w.alloc (.cells #[.slice A H.length c] 22)).alloc (.cells (Array.replicate H.length (.bool false)) 4)).alloc (.cells #[.slice (some ⟨w.heap.size + 1, 0, none⟩) H.length H.length] 99)).alloc (.cells #[.func (.func 101) #[] #[.pointer (some ⟨w.heap.size + 1 + 1, 0, none⟩), .pointer (some ⟨w.heap.size, 0, none⟩), .pointer (some ⟨w.heap.size + 1 + 1 + 1, 0, none⟩)]] 137)) (List.replicate H.length false) := by
  have s1 : (w.alloc (.cells #[.slice A H.length c] 22)).heap.size = w.heap.size + 1 := World.size_alloc _ _
  have s2 : ((w.alloc (.cells #[.slice A H.length c] 22)).alloc (.cells (Array.replicate H.length (.bool false)) 4)).heap.size = w.heap.size + 1 + 1 := by rw [World.size_alloc, s1]
  have s3 : (((w.alloc (.cells #[.slice A H.length c] 22)).alloc (.cells (Array.replicate H.length (.bool false)) 4)).alloc (.cells #[.slice (some ⟨w.heap.size + 1, 0, none⟩) H.length H.length] 99)).heap.size = w.heap.size + 1 + 1 + 1 := by rw [World.size_alloc, s2]
  have b1 := blk_alloc (blk_alloc (blk_alloc (heap_alloc_new w (.cells #[.slice A H.length c] 22)) (.cells (Array.replicate H.length (.bool false)) 4)) (.cells #[.slice (some ⟨w.heap.size + 1, 0, none⟩) H.length H.length] 99)) (.cells #[.func (.func 101) #[] #[.pointer (some ⟨w.heap.size + 1 + 1, 0, none⟩), .pointer (some ⟨w.heap.size, 0, none⟩), .pointer (some ⟨w.heap.size + 1 + 1 + 1, 0, none⟩)]] 137)
  have b2 := blk_alloc (blk_alloc (heap_alloc_new (w.alloc (.cells #[.slice A H.length c] 22)) (.cells (Array.replicate H.length (.bool false)) 4)) (.cells #[.slice (some ⟨w.heap.size + 1, 0, none⟩) H.length H.length] 99)) (.cells #[.func (.func 101) #[] #[.pointer (some ⟨w.heap.size + 1 + 1, 0, none⟩), .pointer (some ⟨w.heap.size, 0, none⟩), .pointer (some ⟨w.heap.size + 1 + 1 + 1, 0, none⟩)]] 137)
  have b3 := blk_alloc (heap_alloc_new ((w.alloc (.cells #[.slice A H.length c] 22)).alloc (.cells (Array.replicate H.length (.bool false)) 4)) (.cells #[.slice (some ⟨w.heap.size + 1, 0, none⟩) H.length H.length] 99)) (.cells #[.func (.func 101) #[] #[.pointer (some ⟨w.heap.size + 1 + 1, 0, none⟩), .pointer (some ⟨w.heap.size, 0, none⟩), .pointer (some ⟨w.heap.size + 1 + 1 + 1, 0, none⟩)]] 137)
  have b4 := heap_alloc_new (((w.alloc (.cells #[.slice A H.length c] 22)).alloc (.cells (Array.replicate H.length (.bool false)) 4)).alloc (.cells #[.slice (some ⟨w.heap.size + 1, 0, none⟩) H.length H.length] 99)) (.cells #[.func (.func 101) #[] #[.pointer (some ⟨w.heap.size + 1 + 1, 0, none⟩), .pointer (some ⟨w.heap.size, 0, none⟩), .pointer (some ⟨w.heap.size + 1 + 1 + 1, 0, none⟩)]] 137)
  rw [s1] at b2
  rw [s2] at b3
  rw [s3] at b4
  exact {
    below := ((((Below.refl _ _).alloc (Nat.le_refl _) _).alloc (by omega) _).alloc (by omega) _).alloc (by omega) _
    len := List.length_replicate
    out := by rw [blk_cell b3]; rfl
    row := by
      rw [b2]
      congr 2
      simp
    heap := by rw [blk_cell b1]; rfl
    walk := by rw [blk_cell b4]; rfl
    base := by omega
    ne1 := by omega
    ne2 := by omega
    ne3 := by omega }
theorem reached_calls (A : Option Addr) (c : Nat) (H : Sh.Hp) (root : Int) (bs : List Bool) (w : World) (hC : Nodes w A H) (hbig : ∀ p ∈ H, p.2.length ≤ 1000000) (hl : H.length ≤ 10000) (hr : Sh.walkR H (H.length + 1) root (List.replicate H.length false) = some bs) :
    Calls Tryz.prog 62 #[.slice A H.length c, .int .i64 root] w fun e w' => ∃ g, e = .returned (.slice (some ⟨g, 0, none⟩) H.length H.length) ∧ w'.heap[g]? = some (.cells (bs.map Value.bool).toArray 4 (0, 0)) ∧ bs.length = H.length ∧ w.heap.size ≤ g ∧ Below w.heap.size w w' := by
  have hms := fun W => make_bools W H.length (by omega)
  have hmf : ∀ (fn : Fn) (first cap : Array Value) (w : World), (Instr.makeFunc fn first cap).run Tryz.prog w = .ok (.func fn first cap) w := fun _ _ _ _ => rfl
  have hcl := Lib.hid (fun bo bh bw g W hM => mark_calls w bo bh bw g A c H hC hbig (H.length + 1) root _ bs W hM hr)
  clear hC hbig hr
  go_enter Tryz.func62, Tryz.ntmps62
  go_wp2_with fail
  refine (hcl.out _ _ _ _ _ (marks_start w A c H)).mono ?_
  rintro e w3 ⟨rfl, hM⟩
  have u := hM.out
  replace hM := Lib.hid hM
  go_wp2
  go_ret
  exact ⟨_, rfl, hM.out.row, hM.out.len, hM.out.base, hM.out.below⟩
end Go.Proofs.YtbfedeedicnedaaGreat
end
