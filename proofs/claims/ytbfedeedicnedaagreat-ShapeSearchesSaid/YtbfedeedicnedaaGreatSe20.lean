/-
  Texts of this claim: ShWT3, ShFd, ShFe, ShSs, ShSw.
-/
import Derived.Test.YtbfedeedicnedaaGreatSe19
set_option linter.unusedVariables false
set_option linter.unusedSimpArgs false
section
namespace Go.Proofs.YtbfedeedicnedaaGreat
open Go.RowKit
open Go.Proofs.YtbfedeedicnedaaGreatW.PrintWords
namespace WT
def FindsF (H : Sh.Hp) (f root x : Int) (b : Bool) (n : Nat) : Prop := ∀ (ty k : Nat), (ty = 154 ∧ k = 161 ∧ f = 1) ∨ (ty = 155 ∧ k = 166 ∧ f = 2) ∨ (ty = 119 ∧ k = 153 ∧ f = 3) ∨ (ty = 156 ∧ k = 179 ∧ f = 4) ∨ (ty = 157 ∧ k = 189 ∧ f = 5) → ∀ (A : Option Addr) (c : Nat) (w : World), Nodes w A H →
  Calls Tryz.prog k #[.agg #[], .slice A H.length c, .int .i64 root, .int .i64 x] w fun e w' => e = .returned (.tuple #[.bool b, .int .i64 n]) ∧ Below w.heap.size w w'
theorem sought_in (H : Sh.Hp) (f root count x : Int) (A : Option Addr) (c : Nat) (w : World) (o : Obj) (hC : Nodes w A H) (hL : ListsF H f) :
    Calls Tryz.prog 86 #[.slice A H.length c, shV f root count, .int .i64 x] (w.alloc o) fun e w' => LGot (¬ Digital f) w.heap.size w' e (Sh.sought H f root count x) ∧ Below w.heap.size w w' ∧ Below (w.alloc o).heap.size (w.alloc o) w' := by
  refine (sought_calls H f root count x A c (w.alloc o) (Nodes.alloc hC _) hL).mono ?_
  rintro e w' ⟨h, hb⟩
  have hb2 := hb
  rw [World.size_alloc] at h hb
  exact ⟨h.lower (by omega), Below.trans ((Below.refl _ _).alloc (Nat.le_refl _) o) (hb.mono (by omega)), hb2⟩
set_option maxRecDepth 100000 in
set_option maxHeartbeats 1000000 in
theorem search_bad (H : Sh.Hp) (f root count x : Int) (A : Option Addr) (c : Nat) (w : World) (hC : Nodes w A H) (hL : ListsF H f) (hs : (Sh.sought H f root count x).2 ≠ 0) :
    Calls Tryz.prog 61 #[.slice A H.length c, shV f root count, .int .i64 x] w fun e w' => e = .returned (.tuple #[.bool false, .int .i64 0, .int .i64 (Sh.sought H f root count x).2]) ∧ Below w.heap.size w w' := by
  have hcl := Lib.hid (sought_in H f root count x A c w (.cells #[.int .i64 f, .int .i64 root, .int .i64 count] 25) hC hL)
  generalize Sh.sought H f root count x = R at *
  obtain ⟨R1, R2⟩ := R
  have hsb : (R2 != 0) = true := bne_iff_ne.mpr hs
  clear hC hL hs
  go_enter Tryz.func61, Tryz.ntmps61
  go_wp2_with fail
  refine (hcl.out).mono ?_
  rintro e w1 ⟨⟨v, l, rfl, ho, h1, h2⟩, hb, _⟩
  replace ho := Lib.hid ho
  replace hb := Lib.hid hb
  go_wp2
  go_ret3
  exact ⟨rfl, hb.out⟩
set_option maxRecDepth 100000 in
set_option maxHeartbeats 1000000 in
theorem search_good (H : Sh.Hp) (f root count x : Int) (b : Bool) (n : Nat) (A : Option Addr) (c : Nat) (w : World) (hC : Nodes w A H) (hL : ListsF H f) (hs : (Sh.sought H f root count x).2 = 0) (h2 : 1 ≤ f) (h3 : f ≤ 5) (hF : FindsF H f root x b n) :
    Calls Tryz.prog 61 #[.slice A H.length c, shV f root count, .int .i64 x] w fun e w' => e = .returned (.tuple #[.bool b, .int .i64 n, .int .i64 0]) ∧ Below w.heap.size w w' := by
  have hcl := Lib.hid (sought_in H f root count x A c w (.cells #[.int .i64 f, .int .i64 root, .int .i64 count] 25) hC hL)
  generalize Sh.sought H f root count x = R at *
  obtain ⟨R1, R2⟩ := R
  replace hs : R2 = 0 := hs
  subst hs
  have hfo := Lib.hid (fun W => forms_calls W)
  clear hL
  have i0 : ∀ W : World, (Instr.index 134 (.agg #[.iface 154 (.agg #[]), .iface 155 (.agg #[]), .iface 119 (.agg #[]), .iface 156 (.agg #[]), .iface 157 (.agg #[])]) (.int .i64 0)).run Tryz.prog W = .ok (.iface 154 (.agg #[])) W := fun W => by kernel_rfl
  have i1 : ∀ W : World, (Instr.index 134 (.agg #[.iface 154 (.agg #[]), .iface 155 (.agg #[]), .iface 119 (.agg #[]), .iface 156 (.agg #[]), .iface 157 (.agg #[])]) (.int .i64 1)).run Tryz.prog W = .ok (.iface 155 (.agg #[])) W := fun W => by kernel_rfl
  have i2 : ∀ W : World, (Instr.index 134 (.agg #[.iface 154 (.agg #[]), .iface 155 (.agg #[]), .iface 119 (.agg #[]), .iface 156 (.agg #[]), .iface 157 (.agg #[])]) (.int .i64 2)).run Tryz.prog W = .ok (.iface 119 (.agg #[])) W := fun W => by kernel_rfl
  have i3 : ∀ W : World, (Instr.index 134 (.agg #[.iface 154 (.agg #[]), .iface 155 (.agg #[]), .iface 119 (.agg #[]), .iface 156 (.agg #[]), .iface 157 (.agg #[])]) (.int .i64 3)).run Tryz.prog W = .ok (.iface 156 (.agg #[])) W := fun W => by kernel_rfl
  have i4 : ∀ W : World, (Instr.index 134 (.agg #[.iface 154 (.agg #[]), .iface 155 (.agg #[]), .iface 119 (.agg #[]), .iface 156 (.agg #[]), .iface 157 (.agg #[])]) (.int .i64 4)).run Tryz.prog W = .ok (.iface 157 (.agg #[])) W := fun W => by kernel_rfl
  go_enter Tryz.func61, Tryz.ntmps61
  go_wp2_with fail
  refine (hcl.out).mono ?_
  rintro e w1 ⟨⟨v, l, rfl, ho, h1, h2'⟩, hb, hb2⟩
  replace ho := Lib.hid ho
  replace hb := Lib.hid hb
  go_wp2_with fail
  trace_state
  refine (hfo.out _).mono ?_
  rintro e w2 ⟨rfl, hb3⟩
  have hblk : w2.heap[w1.heap.size]? = some (.cells #[.nilFunc, .nilFunc, .nilFunc, .nilFunc, .nilFunc] 133 (0, 0)) := (hb3.block w1.heap.size (by rw [World.size_alloc]; omega)).trans (heap_alloc_new w1 _)
  have hc0 : w2.cell? ⟨w1.heap.size, 0, none⟩ = some .nilFunc := by rw [blk_cell hblk]; rfl
  have hc1 : w2.cell? ⟨w1.heap.size, 1, none⟩ = some .nilFunc := by rw [blk_cell hblk]; rfl
  have hc2 : w2.cell? ⟨w1.heap.size, 2, none⟩ = some .nilFunc := by rw [blk_cell hblk]; rfl
  have hc3 : w2.cell? ⟨w1.heap.size, 3, none⟩ = some .nilFunc := by rw [blk_cell hblk]; rfl
  have hc4 : w2.cell? ⟨w1.heap.size, 4, none⟩ = some .nilFunc := by rw [blk_cell hblk]; rfl
  have hfz : ∀ k, w2.frozen? ⟨w1.heap.size, k, none⟩ = false := fun k => blk_frozen hblk k
  go_wp2
  have hB5 := Lib.hid (show Below (w.heap.size + 1) (w.alloc (.cells #[.int .i64 f, .int .i64 root, .int .i64 count] 25)) w2 by
    have h5 : (w.alloc (.cells #[.int .i64 f, .int .i64 root, .int .i64 count] 25)).heap.size = w.heap.size + 1 := World.size_alloc _ _
    have h6 := hb2.size
    rw [h5] at hb2 h6
    exact (hb2.alloc h6 _).trans (hb3.mono (by rw [World.size_alloc]; omega)))
  have hg1 : w.heap.size + 1 ≤ w1.heap.size := by
    have h6 := hb2.size
    rwa [World.size_alloc] at h6
  clear hb2 hb3
  refine wp_loop_rounds 6 ?_
  rw [rounds_succ]
  go_wp2
  rw [rounds_succ]
  go_wp2
  rw [rounds_succ]
  go_wp2
  rw [rounds_succ]
  go_wp2
  rw [rounds_succ]
  go_wp2
  rw [rounds_succ]
  go_wp2
  clear hc0 hc1 hc2 hc3 hc4 hfz i0 i1 i2 i3 i4
  obtain ⟨W5, hW5⟩ : ∃ W5, W5 = (((((w2.setCell ⟨w1.heap.size, 0, none⟩ (.func (Fn.method "sward/shape.find") #[.iface 154 (.agg #[])] #[])).setCell ⟨w1.heap.size, 1, none⟩ (.func (Fn.method "sward/shape.find") #[.iface 155 (.agg #[])] #[])).setCell ⟨w1.heap.size, 2, none⟩ (.func (Fn.method "sward/shape.find") #[.iface 119 (.agg #[])] #[])).setCell ⟨w1.heap.size, 3, none⟩ (.func (Fn.method "sward/shape.find") #[.iface 156 (.agg #[])] #[])).setCell ⟨w1.heap.size, 4, none⟩ (.func (Fn.method "sward/shape.find") #[.iface 157 (.agg #[])] #[])) := ⟨_, rfl⟩
  rw [← hW5]
  have hblk5 : W5.heap[w1.heap.size]? = some (.cells #[.func (Fn.method "sward/shape.find") #[.iface 154 (.agg #[])] #[], .func (Fn.method "sward/shape.find") #[.iface 155 (.agg #[])] #[], .func (Fn.method "sward/shape.find") #[.iface 119 (.agg #[])] #[], .func (Fn.method "sward/shape.find") #[.iface 156 (.agg #[])] #[], .func (Fn.method "sward/shape.find") #[.iface 157 (.agg #[])] #[]] 133 (0, 0)) := by
    rw [hW5]
    exact blk_set (blk_set (blk_set (blk_set (blk_set hblk 0 _) 1 _) 2 _) 3 _) 4 _
  have hBb : Below (w.heap.size + 1) (w.alloc (.cells #[.int .i64 f, .int .i64 root, .int .i64 count] 25)) W5 := by
    rw [hW5]
    exact ((((hB5.out.setCell (p := ⟨w1.heap.size, 0, none⟩) hg1 _).setCell (p := ⟨w1.heap.size, 1, none⟩) hg1 _).setCell (p := ⟨w1.heap.size, 2, none⟩) hg1 _).setCell (p := ⟨w1.heap.size, 3, none⟩) hg1 _).setCell (p := ⟨w1.heap.size, 4, none⟩) hg1 _
  clear hW5 hblk hB5
  have hgs := Lib.hid (show w1.heap.size < W5.heap.size from blk_lt hblk5)
  have hq : ∀ W, Below (W5.heap.size) W5 W → W.cell? ⟨w.heap.size, 0, none⟩ = some (.int .i64 f) ∧ W.cell? ⟨w.heap.size, 1, none⟩ = some (.int .i64 root) ∧ (∀ k : Nat, W.cell? ⟨w1.heap.size, k, none⟩ = W5.cell? ⟨w1.heap.size, k, none⟩) := fun W hW => by
    have h5 : w.heap.size + 1 ≤ W5.heap.size := by have := hgs.out; omega
    refine ⟨?_, ?_, fun k => hW.cell (p := ⟨w1.heap.size, k, none⟩) hgs.out⟩
    all_goals
      rw [hW.cell (p := ⟨w.heap.size, _, none⟩) (by show w.heap.size < _; omega), hBb.cell (p := ⟨w.heap.size, _, none⟩) (by show w.heap.size < _; omega)]
      simp
  have hfc : ∀ k : Nat, W5.cell? ⟨w1.heap.size, k, none⟩ = (#[.func (Fn.method "sward/shape.find") #[.iface 154 (.agg #[])] #[], .func (Fn.method "sward/shape.find") #[.iface 155 (.agg #[])] #[], .func (Fn.method "sward/shape.find") #[.iface 119 (.agg #[])] #[], .func (Fn.method "sward/shape.find") #[.iface 156 (.agg #[])] #[], .func (Fn.method "sward/shape.find") #[.iface 157 (.agg #[])] #[]] : Array Value)[k]? := fun k => blk_cell hblk5 k
  have hNod := Lib.hid (fun W (hW : Below W5.heap.size W5 W) => (Nodes.below hC (show Below w.heap.size w W from Below.trans ((Below.refl _ _).alloc (Nat.le_refl _) _) (Below.trans (hBb.mono (by omega)) (hW.mono (by have := hgs.out; omega)))) : Nodes W A H))
  have hBw := Lib.hid (fun W (hW : Below W5.heap.size W5 W) => (show Below w.heap.size w W from Below.trans ((Below.refl _ _).alloc (Nat.le_refl _) _) (Below.trans (hBb.mono (by omega)) (hW.mono (by have := hgs.out; omega)))))
  have hBd := Lib.hid (show Below W5.heap.size W5 W5.drew from (Below.refl _ _).drew)
  clear hBb hblk5 hC
  rcases five h2 h3 with rfl | rfl | rfl | rfl | rfl
  · have hcc := Lib.hid (fun W hW => (⟨hW, (hq W hW).1, (hq W hW).2.1, ((hq W hW).2.2 0).trans (hfc 0)⟩ : _ ∧ _ ∧ _ ∧ W.cell? ⟨w1.heap.size, 0, none⟩ = some (.func (Fn.method "sward/shape.find") #[.iface 154 (.agg #[])] #[])))
    have hls := Lib.hid (hF 154 161 (by omega))
    have hm : ∀ W : World, (method 312 154 (.agg #[]) "sward/shape.find").run Tryz.prog W = .ok (161, .agg #[]) W := fun _ => by kernel_rfl
    clear hq hfc hF
    have hwr : IntKind.i64.wrap (0 : Int) = 0 := by decide
    go_region_held3 (fun W' => Below W5.heap.size W5 W' ∧ W'.cell? ⟨w.heap.size, 0, none⟩ = some (.int .i64 1) ∧ W'.cell? ⟨w.heap.size, 1, none⟩ = some (.int .i64 root) ∧ W'.cell? ⟨w1.heap.size, 0, none⟩ = some (.func (Fn.method "sward/shape.find") #[.iface 154 (.agg #[])] #[]))
      (first
        | exact hcc.out _ (by assumption)
        | exact hcc.out _ hBd.out
        | fail)
      (first
        | (go_at_call 161; refine (hls.out _ _ _ ?hl).mono ?_; (case hl => first | exact hNod.out _ (by assumption) | exact hNod.out _ hBd.out); rintro e w4 ⟨rfl, hb2⟩; have hB4 : Below W5.heap.size W5 w4 := Below.trans hBd.out hb2; replace hb2 := Lib.hid hb2))
    have hBf := Lib.hid (hBw.out _ (show Below W5.heap.size W5 w4 from by assumption))
    go_wp2
    go_ret3
    exact ⟨rfl, hBf.out⟩
  · have hcc := Lib.hid (fun W hW => (⟨hW, (hq W hW).1, (hq W hW).2.1, ((hq W hW).2.2 1).trans (hfc 1)⟩ : _ ∧ _ ∧ _ ∧ W.cell? ⟨w1.heap.size, 1, none⟩ = some (.func (Fn.method "sward/shape.find") #[.iface 155 (.agg #[])] #[])))
    have hls := Lib.hid (hF 155 166 (by omega))
    have hm : ∀ W : World, (method 312 155 (.agg #[]) "sward/shape.find").run Tryz.prog W = .ok (166, .agg #[]) W := fun _ => by kernel_rfl
    clear hq hfc hF
    have hwr : IntKind.i64.wrap (1 : Int) = 1 := by decide
    go_region_held3 (fun W' => Below W5.heap.size W5 W' ∧ W'.cell? ⟨w.heap.size, 0, none⟩ = some (.int .i64 2) ∧ W'.cell? ⟨w.heap.size, 1, none⟩ = some (.int .i64 root) ∧ W'.cell? ⟨w1.heap.size, 1, none⟩ = some (.func (Fn.method "sward/shape.find") #[.iface 155 (.agg #[])] #[]))
      (first
        | exact hcc.out _ (by assumption)
        | exact hcc.out _ hBd.out
        | fail)
      (first
        | (go_at_call 166; refine (hls.out _ _ _ ?hl).mono ?_; (case hl => first | exact hNod.out _ (by assumption) | exact hNod.out _ hBd.out); rintro e w4 ⟨rfl, hb2⟩; have hB4 : Below W5.heap.size W5 w4 := Below.trans hBd.out hb2; replace hb2 := Lib.hid hb2))
    have hBf := Lib.hid (hBw.out _ (show Below W5.heap.size W5 w4 from by assumption))
    go_wp2
    go_ret3
    exact ⟨rfl, hBf.out⟩
  · have hcc := Lib.hid (fun W hW => (⟨hW, (hq W hW).1, (hq W hW).2.1, ((hq W hW).2.2 2).trans (hfc 2)⟩ : _ ∧ _ ∧ _ ∧ W.cell? ⟨w1.heap.size, 2, none⟩ = some (.func (Fn.method "sward/shape.find") #[.iface 119 (.agg #[])] #[])))
    have hls := Lib.hid (hF 119 153 (by omega))
    have hm : ∀ W : World, (method 312 119 (.agg #[]) "sward/shape.find").run Tryz.prog W = .ok (153, .agg #[]) W := fun _ => by kernel_rfl
    clear hq hfc hF
    have hwr : IntKind.i64.wrap (2 : Int) = 2 := by decide
    go_region_held3 (fun W' => Below W5.heap.size W5 W' ∧ W'.cell? ⟨w.heap.size, 0, none⟩ = some (.int .i64 3) ∧ W'.cell? ⟨w.heap.size, 1, none⟩ = some (.int .i64 root) ∧ W'.cell? ⟨w1.heap.size, 2, none⟩ = some (.func (Fn.method "sward/shape.find") #[.iface 119 (.agg #[])] #[]))
      (first
        | exact hcc.out _ (by assumption)
        | exact hcc.out _ hBd.out
        | fail)
      (first
        | (go_at_call 153; refine (hls.out _ _ _ ?hl).mono ?_; (case hl => first | exact hNod.out _ (by assumption) | exact hNod.out _ hBd.out); rintro e w4 ⟨rfl, hb2⟩; have hB4 : Below W5.heap.size W5 w4 := Below.trans hBd.out hb2; replace hb2 := Lib.hid hb2))
    have hBf := Lib.hid (hBw.out _ (show Below W5.heap.size W5 w4 from by assumption))
    go_wp2
    go_ret3
    exact ⟨rfl, hBf.out⟩
  · have hcc := Lib.hid (fun W hW => (⟨hW, (hq W hW).1, (hq W hW).2.1, ((hq W hW).2.2 3).trans (hfc 3)⟩ : _ ∧ _ ∧ _ ∧ W.cell? ⟨w1.heap.size, 3, none⟩ = some (.func (Fn.method "sward/shape.find") #[.iface 156 (.agg #[])] #[])))
    have hls := Lib.hid (hF 156 179 (by omega))
    have hm : ∀ W : World, (method 312 156 (.agg #[]) "sward/shape.find").run Tryz.prog W = .ok (179, .agg #[]) W := fun _ => by kernel_rfl
    clear hq hfc hF
    have hwr : IntKind.i64.wrap (3 : Int) = 3 := by decide
    go_region_held3 (fun W' => Below W5.heap.size W5 W' ∧ W'.cell? ⟨w.heap.size, 0, none⟩ = some (.int .i64 4) ∧ W'.cell? ⟨w.heap.size, 1, none⟩ = some (.int .i64 root) ∧ W'.cell? ⟨w1.heap.size, 3, none⟩ = some (.func (Fn.method "sward/shape.find") #[.iface 156 (.agg #[])] #[]))
      (first
        | exact hcc.out _ (by assumption)
        | exact hcc.out _ hBd.out
        | fail)
      (first
        | (go_at_call 179; refine (hls.out _ _ _ ?hl).mono ?_; (case hl => first | exact hNod.out _ (by assumption) | exact hNod.out _ hBd.out); rintro e w4 ⟨rfl, hb2⟩; have hB4 : Below W5.heap.size W5 w4 := Below.trans hBd.out hb2; replace hb2 := Lib.hid hb2))
    have hBf := Lib.hid (hBw.out _ (show Below W5.heap.size W5 w4 from by assumption))
    go_wp2
    go_ret3
    exact ⟨rfl, hBf.out⟩
  · have hcc := Lib.hid (fun W hW => (⟨hW, (hq W hW).1, (hq W hW).2.1, ((hq W hW).2.2 4).trans (hfc 4)⟩ : _ ∧ _ ∧ _ ∧ W.cell? ⟨w1.heap.size, 4, none⟩ = some (.func (Fn.method "sward/shape.find") #[.iface 157 (.agg #[])] #[])))
    have hls := Lib.hid (hF 157 189 (by omega))
    have hm : ∀ W : World, (method 312 157 (.agg #[]) "sward/shape.find").run Tryz.prog W = .ok (189, .agg #[]) W := fun _ => by kernel_rfl
    clear hq hfc hF
    have hwr : IntKind.i64.wrap (4 : Int) = 4 := by decide
    go_region_held3 (fun W' => Below W5.heap.size W5 W' ∧ W'.cell? ⟨w.heap.size, 0, none⟩ = some (.int .i64 5) ∧ W'.cell? ⟨w.heap.size, 1, none⟩ = some (.int .i64 root) ∧ W'.cell? ⟨w1.heap.size, 4, none⟩ = some (.func (Fn.method "sward/shape.find") #[.iface 157 (.agg #[])] #[]))
      (first
        | exact hcc.out _ (by assumption)
        | exact hcc.out _ hBd.out
        | fail)
      (first
        | (go_at_call 189; refine (hls.out _ _ _ ?hl).mono ?_; (case hl => first | exact hNod.out _ (by assumption) | exact hNod.out _ hBd.out); rintro e w4 ⟨rfl, hb2⟩; have hB4 : Below W5.heap.size W5 w4 := Below.trans hBd.out hb2; replace hb2 := Lib.hid hb2))
    have hBf := Lib.hid (hBw.out _ (show Below W5.heap.size W5 w4 from by assumption))
    go_wp2
    go_ret3
    exact ⟨rfl, hBf.out⟩
theorem search_in {H : Sh.Hp} {f root count x : Int} {A : Option Addr} {c : Nat} {r : Value} {w : World} (o : Obj) (h : ∀ W, Nodes W A H → Calls Tryz.prog 61 #[.slice A H.length c, shV f root count, .int .i64 x] W fun e w' => e = .returned r ∧ Below W.heap.size W w') (hC : Nodes w A H) :
    Calls Tryz.prog 61 #[.slice A H.length c, shV f root count, .int .i64 x] (w.alloc o) fun e w' => e = .returned r ∧ Below w.heap.size w w' := by
  refine (h _ (Nodes.alloc hC o)).mono ?_
  rintro e w' ⟨rfl, hb⟩
  exact ⟨rfl, Below.trans ((Below.refl _ _).alloc (Nat.le_refl _) o) (hb.mono (by rw [World.size_alloc]; omega))⟩
set_option maxRecDepth 100000 in
set_option maxHeartbeats 1000000 in
theorem Steps_of {H : Sh.Hp} {f root count x : Int} {A : Option Addr} {c : Nat} {b : Bool} {n e0 : Int} (w : World) (hC : Nodes w A H) (h : ∀ W, Nodes W A H → Calls Tryz.prog 61 #[.slice A H.length c, shV f root count, .int .i64 x] W fun e w' => e = .returned (.tuple #[.bool b, .int .i64 n, .int .i64 e0]) ∧ Below W.heap.size W w') :
    Calls Tryz.prog 27 #[.slice A H.length c, shV f root count, .int .i64 x] w fun e w' => e = .returned (.tuple #[.int .i64 n, .int .i64 e0]) ∧ Below w.heap.size w w' := by
  have hcl := Lib.hid (search_in (.cells #[.int .i64 f, .int .i64 root, .int .i64 count] 25) h hC)
  clear h hC
  go_enter Tryz.func27, Tryz.ntmps27
  go_wp2_with fail
  refine (hcl.out).mono ?_
  rintro e w1 ⟨rfl, hb⟩
  replace hb := Lib.hid hb
  go_wp2
  go_ret2
  exact ⟨rfl, hb.out⟩
end WT
end Go.Proofs.YtbfedeedicnedaaGreat
end
section
namespace Go.Proofs.YtbfedeedicnedaaGreat
open Go.RowKit
open Go.Proofs.YtbfedeedicnedaaGreatW.PrintWords
theorem pages_kid {H : Sh.Hp} : ∀ {ks : List Int} {i : Nat} {l : List Int}, Sh.listPagesF H i ks = some l → ∀ k ∈ ks, k = -1 ∨ (Sh.there H k = true ∧ (Sh.nd H k).1.length = 1)
  | [], _, _, _, k, hk => by cases hk
  | a :: ks, i, l, h, k, hk => by
    unfold Sh.listPagesF at h
    by_cases ha : a = -1
    · rw [if_pos ha] at h
      rcases List.mem_cons.1 hk with rfl | hk
      · exact .inl ha
      · exact pages_kid h k hk
    · rw [if_neg ha] at h
      obtain ⟨p, hp, h⟩ := Option.bind_eq_some_iff.1 h
      obtain ⟨r, hr, _⟩ := Option.map_eq_some_iff.1 h
      rcases List.mem_cons.1 hk with rfl | hk
      · right
        unfold Sh.page at hp
        split at hp
        case isTrue hc => simp only [Bool.and_eq_true, beq_iff_eq] at hc; exact ⟨hc.1, hc.2.2.1⟩
        case isFalse => cases hp
      · exact pages_kid hr k hk
set_option maxRecDepth 100000 in
set_option maxHeartbeats 1000000 in
theorem pfind_none (H : Sh.Hp) (root x : Int) (i : Nat) (A : Option Addr) (c : Nat) (w : World) (hC : Nodes w A H) (ht : Sh.there H root = true) (hk : (Sh.nd H root).2.length = 32) (hx0 : 0 ≤ x) (hx1 : x ≤ 1023) (hi : (i : Int) = x / 32) (hn : Sh.gi (Sh.nd H root).2 i = -1) :
    Calls Tryz.prog 166 #[.agg #[], .slice A H.length c, .int .i64 root, .int .i64 x] w fun e w' => e = .returned (.tuple #[.bool false, .int .i64 1]) ∧ Below w.heap.size w w' := by
  obtain ⟨h0, h1⟩ := Sh.there_iff.1 ht
  obtain ⟨ad, A0, c0, A1, c1, rfl, d0, d1, l0, g0, l1, g1⟩ := (show Nodes (w.alloc (.cells #[] 155)) A H from Kd.C_alloc hC _).at root h0 h1
  have hB0 := Lib.hid (show Below w.heap.size w (w.alloc (.cells #[] 155)) from (Below.refl _ _).alloc (Nat.le_refl _) _)
  obtain ⟨ad1, rfl, k1⟩ := at_int g1 i (by omega) (by omega)
  rw [Int.toNat_natCast, hn, show i = (x / 32).toNat by omega] at k1
  rw [hk] at d1 l1
  generalize (Sh.nd H root).1.length = n0 at *
  have hi32 : x / 32 < 32 := by omega
  have hi0 : 0 ≤ x / 32 := by omega
  replace hi := Lib.hid hi
  clear g0 g1 hC ht hk
  obtain ⟨r, rfl⟩ := Int.eq_ofNat_of_zero_le h0
  simp only [Int.toNat_natCast] at d0 d1
  go_enter Tryz.func166, Tryz.ntmps166
  go_wp2
  go_ret2
  exact ⟨rfl, hB0.out⟩
set_option maxRecDepth 100000 in
set_option maxHeartbeats 1000000 in
theorem pfind_some (H : Sh.Hp) (root x kid : Int) (i : Nat) (A : Option Addr) (c : Nat) (w : World) (hC : Nodes w A H) (ht : Sh.there H root = true) (hk : (Sh.nd H root).2.length = 32) (hx0 : 0 ≤ x) (hx1 : x ≤ 1023) (hi : (i : Int) = x / 32) (hn : Sh.gi (Sh.nd H root).2 i = kid) (hkid : kid ≠ -1) (htk : Sh.there H kid = true) (hkn : (Sh.nd H kid).1.length = 1) {y : Int} (hy : Sh.gi (Sh.nd H kid).1 0 = y) {b : Bool} (hb : b = (bits .and .i64 (y / 2 ^ (x % 32).toNat) 1 == 1)) :
    Calls Tryz.prog 166 #[.agg #[], .slice A H.length c, .int .i64 root, .int .i64 x] w fun e w' => e = .returned (.tuple #[.bool b, .int .i64 2]) ∧ Below w.heap.size w w' := by
  obtain ⟨h0, h1⟩ := Sh.there_iff.1 ht
  obtain ⟨e0, e1⟩ := Sh.there_iff.1 htk
  obtain ⟨ad, A0, c0, A1, c1, hA, d0, d1, l0, g0, l1, g1⟩ := (show Nodes (w.alloc (.cells #[] 155)) A H from Kd.C_alloc hC _).at root h0 h1
  obtain ⟨ad', A0', c0', A1', c1', hA', d0', d1', l0', g0', l1', g1'⟩ := (show Nodes (w.alloc (.cells #[] 155)) A H from Kd.C_alloc hC _).at kid e0 e1
  subst hA
  obtain rfl : ad = ad' := Option.some.inj hA'
  have hB0 := Lib.hid (show Below w.heap.size w (w.alloc (.cells #[] 155)) from (Below.refl _ _).alloc (Nat.le_refl _) _)
  obtain ⟨ad1, rfl, k1⟩ := at_int g1 i (by omega) (by omega)
  rw [Int.toNat_natCast, hn, show i = (x / 32).toNat by omega] at k1
  obtain ⟨ad2, rfl, k2⟩ := at_zero g0' (by omega)
  rw [hy] at k2
  rw [hk] at d1 l1
  rw [hkn] at d0' l0'
  replace hb := Lib.hid hb
  have hkb : (kid == -1) = false := beq_eq_false_iff_ne.mpr hkid
  generalize (Sh.nd H root).1.length = n0 at *
  generalize (Sh.nd H kid).2.length = n1 at *
  have hi32 : x / 32 < 32 := by omega
  have hi0 : 0 ≤ x / 32 := by omega
  replace hi := Lib.hid hi
  clear g0 g1 hC ht hk g0' g1' htk hkn hA' hn hy hkid
  obtain ⟨r, rfl⟩ := Int.eq_ofNat_of_zero_le h0
  obtain ⟨s, rfl⟩ := Int.eq_ofNat_of_zero_le e0
  simp only [Int.toNat_natCast] at d0 d1 d0' d1'
  go_enter Tryz.func166, Tryz.ntmps166
  go_wp2
  go_ret2
  exact ⟨by rw [hb.out]; rfl, hB0.out⟩
def Sh.stepsP (H : Sh.Hp) (root x : Int) : Nat := if Sh.gi (Sh.nd H root).2 (x / 32).toNat = -1 then 1 else 2
theorem finds_pages {H : Sh.Hp} {root x : Int} {l : List Int} (hl : Sh.listPages H root = some l) (hx0 : 0 ≤ x) (hx1 : x ≤ 1023) : ∃ b, WT.FindsF H 2 root x b (Sh.stepsP H root x) := by
  unfold Sh.listPages at hl
  split at hl
  case isFalse => cases hl
  case isTrue hc =>
    simp only [Bool.and_eq_true, beq_iff_eq] at hc
    obtain ⟨ht, _, hk⟩ := hc
    have hi : (((x / 32).toNat : Nat) : Int) = x / 32 := by omega
    have hlt : (x / 32).toNat < (Sh.nd H root).2.length := by omega
    have hm : Sh.gi (Sh.nd H root).2 (x / 32).toNat ∈ (Sh.nd H root).2 := by
      unfold Sh.gi
      rw [List.getD_eq_getElem?_getD, List.getElem?_eq_getElem hlt]
      exact List.getElem_mem _
    unfold Sh.stepsP
    rcases pages_kid hl _ hm with h | ⟨htk, hkn⟩
    · refine ⟨false, fun ty k hk2 A c w hC => ?_⟩
      obtain ⟨rfl, rfl⟩ : ty = 155 ∧ k = 166 := by omega
      rw [if_pos h]
      exact pfind_none H root x _ A c w hC.1 ht hk hx0 hx1 hi h
    · refine ⟨bits .and .i64 (Sh.gi (Sh.nd H (Sh.gi (Sh.nd H root).2 (x / 32).toNat)).1 0 / 2 ^ (x % 32).toNat) 1 == 1, fun ty k hk2 A c w hC => ?_⟩
      have hne : Sh.gi (Sh.nd H root).2 (x / 32).toNat ≠ -1 := fun e => by rw [e] at htk; exact absurd (Sh.there_iff.1 htk).1 (by decide)
      obtain ⟨rfl, rfl⟩ : ty = 155 ∧ k = 166 := by omega
      rw [if_neg hne]
      exact pfind_some H root x _ _ A c w hC.1 ht hk hx0 hx1 hi rfl hne htk hkn rfl rfl
end Go.Proofs.YtbfedeedicnedaaGreat
end
section
namespace Go.Proofs.YtbfedeedicnedaaGreat
open Go.RowKit
open Go.Proofs.YtbfedeedicnedaaGreatW.PrintWords
namespace Sh
def stepsR (H : Hp) (x : Int) : Nat → Int → Nat
  | 0, _ => 5
  | g + 1, r => if gi (nd H r).2 (digT x (g + 1)).toNat = -1 then 4 - g else stepsR H x g (gi (nd H r).2 (digT x (g + 1)).toNat)
def foundR (H : Hp) (x : Int) : Nat → Int → Bool
  | 0, r => bits .and .i64 (gi (nd H r).1 0 / 2 ^ (digT x 0).toNat) 1 == 1
  | g + 1, r => if gi (nd H r).2 (digT x (g + 1)).toNat = -1 then false else foundR H x g (gi (nd H r).2 (digT x (g + 1)).toNat)
def TrieAt (H : Hp) (g : Nat) (r : Int) : Prop := ∃ b l, walkTrie H g r b = some l
theorem trie_leaf {H : Hp} {r : Int} (h : TrieAt H 0 r) : there H r = true ∧ (nd H r).1.length = 1 := by
  obtain ⟨b, l, h⟩ := h
  unfold walkTrie at h
  obtain ⟨p, hp, _⟩ := Option.map_eq_some_iff.1 h
  unfold page at hp
  split at hp
  case isTrue hc => simp only [Bool.and_eq_true, beq_iff_eq] at hc; exact ⟨hc.1, hc.2.2.1⟩
  case isFalse => cases hp
theorem fold_kid {H : Hp} {g : Nat} {ks : List Int} {b : Int} : ∀ (ds : List Nat) (o : Option (List Int)) {l : List Int}, ds.foldl (fun acc d => acc.bind fun out => if gi ks d = -1 then some out else (walkTrie H g (gi ks d) (4 * b + d)).map fun l => out ++ l) o = some l → ∀ d ∈ ds, gi ks d = -1 ∨ TrieAt H g (gi ks d)
  | [], _, _, _, d, hd => by cases hd
  | a :: ds, o, l, h, d, hd => by
    rw [List.foldl_cons] at h
    rcases List.mem_cons.1 hd with rfl | hd
    · by_cases ha : gi ks d = -1
      · exact .inl ha
      · right
        cases ho : (o.bind fun out => if gi ks d = -1 then some out else (walkTrie H g (gi ks d) (4 * b + d)).map fun l => out ++ l) with
        | none =>
          rw [ho] at h
          have hn : ∀ ds : List Nat, ds.foldl (fun acc d => acc.bind fun out => if gi ks d = -1 then some out else (walkTrie H g (gi ks d) (4 * b + d)).map fun l => out ++ l) (none : Option (List Int)) = none := by
            intro ds
            induction ds with
            | nil => rfl
            | cons _ _ ih => exact ih
          rw [hn] at h
          cases h
        | some v =>
          obtain ⟨u, _, hu⟩ := Option.bind_eq_some_iff.1 ho
          rw [if_neg ha] at hu
          obtain ⟨q, hq, _⟩ := Option.map_eq_some_iff.1 hu
          exact ⟨_, q, hq⟩
    · exact fold_kid ds _ h d hd
theorem trie_node {H : Hp} {g : Nat} {r : Int} (h : TrieAt H (g + 1) r) : there H r = true ∧ (nd H r).2.length = 4 ∧ ∀ d < 4, gi (nd H r).2 d = -1 ∨ TrieAt H g (gi (nd H r).2 d) := by
  obtain ⟨b, l, h⟩ := h
  unfold walkTrie at h
  split at h
  case isFalse => cases h
  case isTrue hc =>
    simp only [Bool.and_eq_true, beq_iff_eq] at hc
    obtain ⟨u, hu, _⟩ := Option.bind_eq_some_iff.1 h
    exact ⟨hc.1, hc.2.2, fun d hd => fold_kid _ _ hu d (List.mem_range.2 hd)⟩
end Sh
set_option maxRecDepth 100000 in
set_option maxHeartbeats 4000000 in
theorem rfind_calls (H : Sh.Hp) (root x : Int) (A : Option Addr) (c : Nat) (w : World) (hC : Nodes w A H) (hT : Sh.TrieAt H 4 root) (hx0 : 0 ≤ x) (hx1 : x ≤ 1023) :
    Calls Tryz.prog 179 #[.agg #[], .slice A H.length c, .int .i64 root, .int .i64 x] w fun e w' => e = .returned (.tuple #[.bool (Sh.foundR H x 4 root), .int .i64 (Sh.stepsR H x 4 root : Nat)]) ∧ Below w.heap.size w w' := by
  have hB0 := Lib.hid (show Below w.heap.size w (w.alloc (.cells #[] 156)) from (Below.refl _ _).alloc (Nat.le_refl _) _)
  obtain ⟨F, hF⟩ : ∃ F, F = Sh.foundR H x 4 root := ⟨_, rfl⟩
  obtain ⟨S, hS⟩ : ∃ S, S = Sh.stepsR H x 4 root := ⟨_, rfl⟩
  rw [← hF, ← hS]
  have hFh := Lib.hid hF
  have hSh := Lib.hid hS
  have hTh := Lib.hid hT
  have hNo := Lib.hid (fun W (hW : Below w.heap.size w W) => (Kd.C_below hC hW : Nodes W A H))
  have hdg := fun (g : Nat) (hg : g ≤ 4) W => (digit_at (w := W) x g hx0 hx1 hg rfl).mono fun e w' h => (⟨h.1, h.2 ▸ Drawn0.refl _⟩ : e = .returned (.int .i64 (Sh.digT x g)) ∧ Drawn0 W w')
  replace hdg := Lib.hid hdg
  clear hC hF hS hT
  go_enter Tryz.func179, Tryz.ntmps179
  go_wp2
  go_loopg [2, 10] 4 (fun gg v2 v10 wr => ∃ (g : Nat) (r lv : Int), Hid (gg = g) ∧ v2 = .int .i64 r ∧ v10 = .int .i64 lv ∧ Hid (lv = ((5 - g : Nat) : Int)) ∧ g ≤ 4 ∧ Hid (Below w.heap.size w wr) ∧ Hid (Sh.TrieAt H g r) ∧ Hid (F = Sh.foundR H x g r) ∧ Hid (S = Sh.stepsR H x g r))
  case atStart => exact ⟨4, root, 1, Lib.hid rfl, rfl, rfl, Lib.hid rfl, Nat.le_refl _, hB0, hTh, hFh, hSh⟩
  case round =>
    obtain ⟨g, r, lv, hgg, rfl, rfl, hlv, hg4, hBr, hTr, hFr, hSr⟩ := hrel
    rcases g with _ | g
    · obtain rfl : lv = 5 := hlv.out
      obtain ⟨ht, hn1⟩ := Sh.trie_leaf hTr.out
      obtain ⟨h0, h1⟩ := Sh.there_iff.1 ht
      obtain ⟨ad, A0, c0, A1, c1, rfl, d0, d1, l0, g0, l1, g1⟩ := Nodes.at (hNo.out _ hBr.out) r h0 h1
      obtain ⟨ad2, rfl, k2⟩ := at_zero g0 (by omega)
      rw [hn1] at d0 l0
      have hd := Lib.hid (hdg.out 0 (by omega))
      have hFr' := Lib.hid (show F = (bits .and .i64 (Sh.gi (Sh.nd H r).1 0 / 2 ^ (Sh.digT x 0).toNat) 1 == 1) from hFr.out)
      have hSr' := Lib.hid (show S = 5 from hSr.out)
      have hdr : 0 ≤ Sh.digT x 0 ∧ Sh.digT x 0 < 4 := by unfold Sh.digT; omega
      generalize Sh.gi (Sh.nd H r).1 0 = y at *
      generalize (Sh.nd H r).2.length = n1 at *
      generalize Sh.digT x 0 = dg at *
      obtain ⟨hd0, hd4⟩ := hdr
      have hrb : (r != -1) = true := bne_iff_ne.mpr (by omega)
      clear g0 g1 ht hn1 hFr hSr hTr hg4 hdg
      obtain ⟨s, rfl⟩ := Int.eq_ofNat_of_zero_le h0
      simp only [Int.toNat_natCast] at d0 d1
      have hn1 : ((s : Int) == -1) = false := beq_eq_false_iff_ne.mpr (by omega)
      go_wp2
      go_quiet ((go_at_call 184; refine (hd.out _).mono ?_; rintro e w' ⟨rfl, ⟨nd, rfl⟩⟩; (try first | exact ⟨rfl, _, World.drewN_drewN _ _ _⟩ | exact ⟨rfl, _, Eq.trans (World.drewN_drewN _ _ _) (congrArg (World.drewN _) (Nat.add_assoc _ _ _))⟩)))
      go_wp2
      go_ret2
      exact ⟨by rw [hFr'.out, hSr'.out]; rfl, pw_below_drewN hBr.out _⟩
    · obtain ⟨ht, hk4, hkid⟩ := Sh.trie_node hTr.out
      obtain ⟨h0, h1⟩ := Sh.there_iff.1 ht
      obtain ⟨ad, A0, c0, A1, c1, rfl, d0, d1, l0, g0, l1, g1⟩ := Nodes.at (hNo.out _ hBr.out) r h0 h1
      have hdr : 0 ≤ Sh.digT x (g + 1) ∧ Sh.digT x (g + 1) < 4 := by unfold Sh.digT; omega
      obtain ⟨ad1, rfl, k1⟩ := at_int g1 (Sh.digT x (g + 1)).toNat (by omega) (by omega)
      rw [Int.toNat_natCast] at k1
      rw [hk4] at d1 l1
      have hkd := hkid (Sh.digT x (g + 1)).toNat (by omega)
      have hd := Lib.hid (by have := hdg.out (g + 1) hg4; rw [← hlv.out] at this; exact this)
      have hFr' := Lib.hid (show F = if Sh.gi (Sh.nd H r).2 (Sh.digT x (g + 1)).toNat = -1 then false else Sh.foundR H x g (Sh.gi (Sh.nd H r).2 (Sh.digT x (g + 1)).toNat) from hFr.out)
      have hSr' := Lib.hid (show S = if Sh.gi (Sh.nd H r).2 (Sh.digT x (g + 1)).toNat = -1 then 4 - g else Sh.stepsR H x g (Sh.gi (Sh.nd H r).2 (Sh.digT x (g + 1)).toNat) from hSr.out)
      have hlv2 := hlv.out
      have hl5 : (lv == 5) = false := beq_eq_false_iff_ne.mpr (by omega)
      have hlw : IntKind.i64.wrap (lv + 1) = lv + 1 := IntWalk.i64_in _ (by omega)
      generalize Sh.gi (Sh.nd H r).2 (Sh.digT x (g + 1)).toNat = kd at *
      generalize (Sh.nd H r).1.length = n0 at *
      generalize Sh.digT x (g + 1) = dg at *
      obtain ⟨hd0, hd4⟩ := hdr
      replace hlv2 := Lib.hid hlv2
      clear g0 g1 ht hk4 hkid hFr hSr hTr hdg hlv
      obtain ⟨s, rfl⟩ := Int.eq_ofNat_of_zero_le h0
      simp only [Int.toNat_natCast] at d0 d1
      have hn1 : ((s : Int) == -1) = false := beq_eq_false_iff_ne.mpr (by omega)
      by_cases hk : kd = -1
      · have hF2 := Lib.hid (by have := hFr'.out; rw [if_pos hk] at this; exact this)
        have hS2 := Lib.hid (by have := hSr'.out; rw [if_pos hk] at this; exact this)
        subst hk
        clear hkd hFr' hSr'
        go_wp2
        go_quiet ((go_at_call 184; refine (hd.out _).mono ?_; rintro e w' ⟨rfl, ⟨nd, rfl⟩⟩; (try first | exact ⟨rfl, _, World.drewN_drewN _ _ _⟩ | exact ⟨rfl, _, Eq.trans (World.drewN_drewN _ _ _) (congrArg (World.drewN _) (Nat.add_assoc _ _ _))⟩)))
        go_wp2
        go_ret2
        refine ⟨?_, pw_below_drewN hBr.out _⟩
        rw [hF2.out, hS2.out, hlv2.out]
        show Ending.returned (.tuple #[.bool false, .int .i64 ((5 - (g + 1) : Nat) : Int)]) = Ending.returned (.tuple #[.bool false, .int .i64 ((4 - g : Nat) : Int)])
        rw [show 5 - (g + 1) = 4 - g by omega]
      · have hkT := Lib.hid (hkd.resolve_left hk)
        have hkb : (kd == -1) = false := beq_eq_false_iff_ne.mpr hk
        have hF2 := Lib.hid (by have := hFr'.out; rw [if_neg hk] at this; exact this)
        have hS2 := Lib.hid (by have := hSr'.out; rw [if_neg hk] at this; exact this)
        clear hkd hk hFr' hSr'
        go_wp2
        go_quiet ((go_at_call 184; refine (hd.out _).mono ?_; rintro e w' ⟨rfl, ⟨nd, rfl⟩⟩; (try first | exact ⟨rfl, _, World.drewN_drewN _ _ _⟩ | exact ⟨rfl, _, Eq.trans (World.drewN_drewN _ _ _) (congrArg (World.drewN _) (Nat.add_assoc _ _ _))⟩)))
        go_wp2
        go_quiet ((go_at_call 184; refine (hd.out _).mono ?_; rintro e w' ⟨rfl, ⟨nd, rfl⟩⟩; (try first | exact ⟨rfl, _, World.drewN_drewN _ _ _⟩ | exact ⟨rfl, _, Eq.trans (World.drewN_drewN _ _ _) (congrArg (World.drewN _) (Nat.add_assoc _ _ _))⟩)))
        go_wp2
        go_roundg g
        case measure => have := hgg.out; omega
        case rel => exact ⟨g, kd, lv + 1, Lib.hid rfl, rfl, by go_num, Lib.hid (by have := hlv2.out; omega), by omega, Lib.hid (by first | exact pw_below_drewN (pw_below_drewN hBr.out _) _ | exact pw_below_drewN hBr.out _), hkT, hF2, hS2⟩
set_option maxRecDepth 100000 in
set_option maxHeartbeats 4000000 in
theorem rfind_none (n c : Nat) (x : Int) (A : Option Addr) (w : World) :
    Calls Tryz.prog 179 #[.agg #[], .slice A n c, .int .i64 (-1), .int .i64 x] w fun e w' => e = .returned (.tuple #[.bool false, .int .i64 0]) ∧ Below w.heap.size w w' := by
  have hB0 := Lib.hid (show Below w.heap.size w (w.alloc (.cells #[] 156)) from (Below.refl _ _).alloc (Nat.le_refl _) _)
  go_enter Tryz.func179, Tryz.ntmps179
  go_wp2
  refine wp_loop_rounds 1 ?_
  rw [rounds_succ]
  go_wp2
  go_ret2
  exact ⟨rfl, hB0.out⟩
def Sh.stepsTrie (H : Sh.Hp) (root x : Int) : Nat := if root = -1 then 0 else Sh.stepsR H x 4 root
theorem finds_trie {H : Sh.Hp} {root x : Int} {l : List Int} (hl : Sh.listTrie H root = some l) (hx0 : 0 ≤ x) (hx1 : x ≤ 1023) : ∃ b, WT.FindsF H 4 root x b (Sh.stepsTrie H root x) := by
  unfold Sh.listTrie at hl
  unfold Sh.stepsTrie
  by_cases hr : root = -1
  · subst hr
    refine ⟨false, fun ty k hk2 A c w hC => ?_⟩
    obtain ⟨rfl, rfl⟩ : ty = 156 ∧ k = 179 := by omega
    rw [if_pos rfl]
    exact rfind_none H.length c x A w
  · rw [if_neg hr] at hl
    refine ⟨Sh.foundR H x 4 root, fun ty k hk2 A c w hC => ?_⟩
    obtain ⟨rfl, rfl⟩ : ty = 156 ∧ k = 179 := by omega
    rw [if_neg hr]
    exact rfind_calls H root x A c w hC.1 ⟨0, l, hl⟩ hx0 hx1
end Go.Proofs.YtbfedeedicnedaaGreat
end
section
namespace Go.Proofs.YtbfedeedicnedaaGreat
open Go.RowKit
namespace Sh
theorem findA_le (l : List Int) (x : Int) : ∀ (g m low high s : Nat), high - low < 2 ^ m → (findA l x g low high s).2 ≤ s + m
  | 0, m, low, high, s, h => by unfold findA; exact Nat.le_add_right _ _
  | g + 1, m, low, high, s, h => by
    rw [findA_step]
    by_cases c : low < high
    · rw [if_pos c]
      cases m with
      | zero => rw [Nat.pow_zero] at h; omega
      | succ m =>
      rw [Nat.pow_succ] at h
      split
      · show s + 1 ≤ _; omega
      · split
        · have := findA_le l x g m ((low + high) / 2 + 1) high (s + 1) (by omega); omega
        · have := findA_le l x g m low ((low + high) / 2) (s + 1) (by omega); omega
    · rw [if_neg c]
      exact Nat.le_add_right _ _
theorem findT_le {h : Hp} {x : Int} : ∀ (g : Nat) {r lo hi t : Int} {l : List Int} (s : Nat), Tr h r lo hi l t → ((findT h x g r s).2 : Int) ≤ s + t
  | 0, r, lo, hi, t, l, s, T => by unfold findT; have := T.nonneg; show (s : Int) ≤ _; omega
  | g + 1, r, lo, hi, t, l, s, T => by
    have ht := T.nonneg
    rw [findT_step]
    by_cases c : r = -1
    · rw [if_pos c]; show (s : Int) ≤ _; omega
    · rw [if_neg c]
      obtain ⟨y, a, b, la, lb, ha, hb, hn, rfl, rfl, hlo, hhi, Ta, Tb, h1, h2⟩ := T.parts c
      have e1 : lft h r = a := by unfold lft; rw [hn]; rfl
      have e2 : rgt h r = b := by unfold rgt; rw [hn]; rfl
      have hna := Ta.nonneg
      have hnb := Tb.nonneg
      rw [e1, e2]
      split
      · show ((s + 1 : Nat) : Int) ≤ _; omega
      · split
        · have := findT_le (x := x) g (s + 1) Ta; omega
        · have := findT_le (x := x) g (s + 1) Tb; omega
theorem stepsR_le (H : Hp) (x : Int) : ∀ (g : Nat) (r : Int), stepsR H x g r ≤ 5
  | 0, r => Nat.le_refl _
  | g + 1, r => by
    unfold stepsR
    split
    · omega
    · exact stepsR_le H x g _
theorem stepsTrie_le (H : Hp) (r x : Int) : stepsTrie H r x ≤ 5 := by
  unfold stepsTrie
  split
  · omega
  · exact stepsR_le H x 4 r
theorem stepsP_le (H : Hp) (r x : Int) : stepsP H r x ≤ 2 := by
  unfold stepsP
  split <;> omega
end Sh
end Go.Proofs.YtbfedeedicnedaaGreat
end
section
namespace Go.Proofs.YtbfedeedicnedaaGreat
open Go.RowKit
open Go.Proofs.YtbfedeedicnedaaGreatW.PrintWords
namespace Sh
theorem len_sub {l : List Int} : ∀ {m : List Int}, l.Nodup → (∀ y ∈ l, y ∈ m) → l.length ≤ m.length := by
  induction l with
  | nil => intro m _ _; exact Nat.zero_le _
  | cons a l ih =>
    intro m hn h
    have ha : a ∈ m := h a List.mem_cons_self
    rw [List.nodup_cons] at hn
    have h1 := ih (m := m.erase a) hn.2 (fun y hy => by
      refine (List.mem_erase_of_ne ?_).2 (h y (List.mem_cons_of_mem _ hy))
      rintro rfl
      exact hn.1 hy)
    rw [List.length_erase_of_mem ha] at h1
    have h2 : 0 < m.length := List.length_pos_of_mem ha
    rw [List.length_cons]
    omega
theorem slot_inj {t : List Int} (x : Int) {j k : Nat} (hj : j < t.length) (hk : k < t.length) (h : slot t x j = slot t x k) : j = k := by
  unfold slot at h
  generalize (home x t.length).toNat = a at h
  generalize t.length = n at *
  have hb : a % n < n := Nat.mod_lt _ (by omega)
  rw [← Nat.mod_add_mod a n j, ← Nat.mod_add_mod a n k] at h
  generalize a % n = b at *
  by_cases c1 : b + j < n <;> by_cases c2 : b + k < n
  · rw [Nat.mod_eq_of_lt c1, Nat.mod_eq_of_lt c2] at h; omega
  · rw [Nat.mod_eq_of_lt c1, Nat.mod_eq_sub_mod (by omega), Nat.mod_eq_of_lt (by omega)] at h; omega
  · rw [Nat.mod_eq_of_lt c2, Nat.mod_eq_sub_mod (by omega), Nat.mod_eq_of_lt (by omega)] at h; omega
  · rw [Nat.mod_eq_sub_mod (by omega), Nat.mod_eq_of_lt (by omega), Nat.mod_eq_sub_mod (by omega), Nat.mod_eq_of_lt (by omega)] at h; omega
theorem place_le {t : List Int} (T : TabOk t) (x : Int) (hx : 0 ≤ x) : place t x ≤ (full t).length := by
  obtain ⟨h1, h2, _⟩ := place_spec x hx T.empty
  have hpos : 0 < t.length := by omega
  have hv : ((List.range (place t x)).map fun i => gi t (slot t x i)).Nodup := by
    rw [List.nodup_iff_pairwise_ne, List.pairwise_map]
    refine List.Pairwise.imp_of_mem ?_ (List.pairwise_lt_range (n := place t x))
    intro a b ha hb hab he
    rw [List.mem_range] at ha hb
    have := T.tab.one (slot_lt x a hpos) (slot_lt x b hpos) (h2 a ha).1 he
    have := slot_inj x (by omega) (by omega) this
    omega
  have h := len_sub hv (m := full t) (fun y hy => by
    obtain ⟨i, hi, rfl⟩ := List.mem_map.1 hy
    rw [List.mem_range] at hi
    exact mem_full.2 ⟨(h2 i hi).1, _, slot_lt x i hpos, rfl⟩)
  rw [List.length_map, List.length_range] at h
  exact h
theorem trie_leaf2 {H : Hp} {r : Int} (h : TrieAt H 0 r) : (nd H r).2 = [] := by
  obtain ⟨b, l, h⟩ := h
  unfold walkTrie at h
  obtain ⟨p, hp, _⟩ := Option.map_eq_some_iff.1 h
  unfold page at hp
  split at hp
  case isTrue hc => simp only [Bool.and_eq_true, beq_iff_eq] at hc; exact List.length_eq_zero_iff.1 hc.2.1
  case isFalse => cases hp
theorem dig_rem (x : Int) (g : Nat) (h0 : 0 ≤ x) (h1 : x ≤ 1023) (hg : g ≤ 4) : x / ((4 ^ g : Nat) : Int) % 4 = digT x g := rfl
theorem pow_four (g : Nat) (hg : g + 1 ≤ 4) : ((4 ^ (g + 1) : Nat) : Int) / 4 = ((4 ^ g : Nat) : Int) := by
  have e : g = 0 ∨ g = 1 ∨ g = 2 ∨ g = 3 := by omega
  rcases e with rfl | rfl | rfl | rfl <;> rfl
theorem pow_most (g : Nat) (hg : g + 1 ≤ 4) : ((4 ^ (g + 1) : Nat) : Int) ≤ 256 := by
  have e : g = 0 ∨ g = 1 ∨ g = 2 ∨ g = 3 := by omega
  rcases e with rfl | rfl | rfl | rfl <;> decide
end Sh
end Go.Proofs.YtbfedeedicnedaaGreat
end
