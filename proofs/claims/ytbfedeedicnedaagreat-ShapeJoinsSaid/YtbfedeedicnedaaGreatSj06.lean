/-
  Texts of this claim: ShN.
-/
import Derived.Test.YtbfedeedicnedaaGreatSj05
set_option linter.unusedVariables false
set_option linter.unusedSimpArgs false
set_option maxHeartbeats 8000000
set_option maxRecDepth 100000
section
namespace Go.Proofs.YtbfedeedicnedaaGreat
open Go.RowKit
open Go.Proofs.YtbfedeedicnedaaGreatW.PrintWords
theorem node_calls (base hb : Nat) (H : Sh.Hp) (a x b : Int) (w : World) (hH : HeapAt w base hb H) (ha : a = -1 ∨ (0 ≤ a ∧ a < (H.length : Int) ∧ 2 ≤ (Sh.nd H a).1.length)) (hb_ : b = -1 ∨ (0 ≤ b ∧ b < (H.length : Int) ∧ 2 ≤ (Sh.nd H b).1.length))
    (h1 : -1000000 ≤ Sh.height H a) (h2 : Sh.height H a ≤ 1000000) (h3 : -1000000 ≤ Sh.height H b) (h4 : Sh.height H b ≤ 1000000) (hl : H.length ≤ 1000000) :
    Calls Tryz.prog 115 #[.pointer (some ⟨hb, 0, none⟩), .int .i64 a, .int .i64 x, .int .i64 b] w fun e w' => e = .returned (.int .i64 (Sh.node H a x b).2) ∧ HeapAt w' base hb (Sh.node H a x b).1 ∧ Below base w w' := by
  obtain ⟨A, c, hcell, hc, hC⟩ := hH.cell
  have hlt := hH.lt
  have hbase : base ≤ w.heap.size := by have := hH.1; omega
  have hha := Lib.hid (fun (W' : World) (hW : Below w.heap.size w W') => height_calls A c H a W' (Kd.C_below hC hW) ha)
  have hhb := Lib.hid (fun (W' : World) (hW : Below w.heap.size w W') => height_calls A c H b W' (Kd.C_below hC hW) hb_)
  have hadd := Lib.hid (fun (v0 v1 : Value) (W' : World) (hW : Below w.heap.size w W') (k0 : Kd.R kI 3 W' base (fun _ => True) v0 [x, 1 + max (Sh.height H a) (Sh.height H b)]) (k1 : Kd.R kI 3 W' base (fun _ => True) v1 [a, b]) => add_calls base hb H [x, 1 + max (Sh.height H a) (Sh.height H b)] [a, b] v0 v1 W' (hH.step hW) k0 k1 hl)
  unfold Sh.node
  dsimp only
  generalize Sh.height H a = p at hha hadd h1 h2 ⊢
  generalize Sh.height H b = q at hhb hadd h3 h4 ⊢
  obtain ⟨m, hm⟩ : ∃ m, m = max p q := ⟨_, rfl⟩
  rw [← hm] at hadd ⊢
  have hmax : IntKind.i64.wrap (1 + m) = 1 + m := IntWalk.i64_in _ (by omega)
  replace hmax := Lib.hid hmax
  have hcl : ∀ W', Below w.heap.size w W' → W'.cell? ⟨hb, 0, none⟩ = some (.slice A H.length c) := fun W' hW => (hW.cell (p := ⟨hb, 0, none⟩) hlt).trans hcell
  replace hcl := Lib.hid hcl
  have hHh := Lib.hid hH
  have hB0 : Hid (Below w.heap.size w w) := Lib.hid (Below.refl w.heap.size w)
  have hB1 : Hid (∀ o, Below w.heap.size w (w.alloc o).drew) := Lib.hid (fun o => ((Below.refl w.heap.size w).alloc (Nat.le_refl _) o).drew)
  have hcl1 : ∀ o, (w.alloc o).cell? ⟨hb, 0, none⟩ = some (.slice A H.length c) := fun o => hcl.out _ ((Below.refl w.heap.size w).alloc (Nat.le_refl _) o)
  have hBd : Hid (Below w.heap.size w w.drew) := Lib.hid (Below.refl w.heap.size w).drew
  clear ha hb_ hH hC
  have hif : (if p < q then q else p) = m := by rw [max_if]; exact hm.symm
  clear hm
  go_enter Tryz.func115, Tryz.ntmps115
  go_wp2
  go_region_with (first
      | (go_at_call 113; (with_reducible refine (hha.out _ ?hl).mono ?_); (case hl => first | with_reducible exact hBd.out | with_reducible exact hB1.out _); rintro e w7 ⟨rfl, rfl⟩)
      | (go_at_call 113; (with_reducible refine (hhb.out _ ?hl).mono ?_); (case hl => first | with_reducible exact hBd.out | with_reducible exact hB1.out _); rintro e w7 ⟨rfl, rfl⟩)
      | (go_at_call 130; refine (hadd.out _ _ _ ?hl ?k0 ?k1).mono ?_; (case hl => with_reducible exact two_below w _ (Nat.le_refl _) _ _); (case k0 => first | with_reducible exact (two_lits w base x (1 + m) a b _ _ hbase rfl hmax.out).1 | with_reducible exact (two_lits' w base x (1 + m) a b _ hbase hmax.out).1); (case k1 => first | with_reducible exact (two_lits w base x (1 + m) a b _ _ hbase rfl hmax.out).2 | with_reducible exact (two_lits' w base x (1 + m) a b _ hbase hmax.out).2); rintro e w7 ⟨rfl, hH7, hB7⟩; replace hH7 := Lib.hid hH7; have hB := Lib.hid (Below.trans (two_below w base hbase _ _) hB7); clear hB7))
  all_goals
    go_wp2
    go_ret
    exact ⟨rfl, hH7.out, hB.out⟩
end Go.Proofs.YtbfedeedicnedaaGreat
end
