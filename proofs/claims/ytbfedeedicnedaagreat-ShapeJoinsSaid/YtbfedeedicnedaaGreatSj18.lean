/-
  Texts of this claim: ShY, ShAA, ShZ, ShAB.
-/
import Derived.Test.YtbfedeedicnedaaGreatSj17
set_option linter.unusedVariables false
set_option linter.unusedSimpArgs false
set_option maxHeartbeats 8000000
set_option maxRecDepth 100000
section
namespace Go.Proofs.YtbfedeedicnedaaGreat
open Go.RowKit
open Go.Proofs.YtbfedeedicnedaaGreatW.PrintWords
theorem alay_calls {base hb : Nat} {H : Sh.Hp} {w : World} (hH : HeapAt w base hb H) {A : Option Addr} {c : Nat} {l : List Int} (hL : Low w base A l) (hn : l.length ≤ 1000000) (hl : H.length ≤ 1000000) :
    Calls Tryz.prog 162 #[.agg #[], .pointer (some ⟨hb, 0, none⟩), .slice A l.length c] w fun e w' => e = .returned (.int .i64 H.length) ∧ HeapAt w' base hb (H ++ [(l, [])]) ∧ Below base w w' := by
  have hsz : base ≤ w.heap.size := by have := hH.1; have := hH.lt; omega
  have hB0 := Lib.hid (show Below base w (w.alloc (.cells #[] 154)) from (Below.refl _ _).alloc hsz _)
  have hH0 := Lib.hid (hH.step (w1 := w.alloc (.cells #[] 154)) ((Below.refl _ _).alloc (Nat.le_refl _) _))
  have hcl := Lib.hid (clone_calls A c l (w.alloc (.cells #[] 154)) (hL _ hB0.out) hn)
  have hs1 := Lib.hid (show base ≤ (w.alloc (.cells #[] 154)).heap.size by rw [World.size_alloc]; omega)
  have had := Lib.hid (fun W v (hW : HeapAt W base hb H) (hv : Kd.R kI 3 W base (fun _ => True) v l) => add_calls base hb H l [] v (.slice none 0 0) W hW hv (Kd.R_nil _ _ _ _ _) hl)
  clear hH hL
  go_enter Tryz.func162, Tryz.ntmps162
  go_wp2_with fail
  refine (hcl.out).mono ?_
  rintro e w1 ⟨v, rfl, ho, hb1⟩
  have hH1 := Lib.hid (hH0.out.step hb1)
  have hB1 := Lib.hid (Below.trans hB0.out (hb1.mono hs1.out))
  have ho1 := Lib.hid (Kd.R_lower ho hs1.out)
  clear ho hb1
  go_wp2_with fail
  refine (had.out _ _ hH1.out ho1.out).mono ?_
  rintro e w2 ⟨rfl, hH2, hB2⟩
  replace hH2 := Lib.hid hH2
  have hB3 := Lib.hid (Below.trans hB1.out hB2)
  clear hB2
  go_wp2
  go_ret
  exact ⟨rfl, hH2.out, hB3.out⟩
namespace Sh
def digT (x : Int) (g : Nat) : Int := x / (4 ^ g : Nat) % 4
theorem digT_lt (x : Int) (g : Nat) : 0 ≤ digT x g ∧ digT x g < 4 := by unfold digT; omega
def run (g : Nat) (d : Int) : List Int → Nat
  | [] => 0
  | x :: l => if digT x g = d then 1 + run g d l else 0
theorem run_le (g : Nat) (d : Int) (l : List Int) : run g d l ≤ l.length := by
  induction l with
  | nil => exact Nat.le_refl _
  | cons x l ih =>
    show (if digT x g = d then 1 + run g d l else 0) ≤ l.length + 1
    split <;> omega
def wordT (l : List Int) : Nat := l.foldl (fun w x => w ||| 2 ^ (digT x 0).toNat) 0
def stepT (f : Hp → List Int → Hp × Int) (g : Nat) (s : Hp × List Int × List Int) (d : Int) : Hp × List Int × List Int :=
  ((f s.1 (s.2.2.take (run g d s.2.2))).1, s.2.1 ++ [(f s.1 (s.2.2.take (run g d s.2.2))).2], s.2.2.drop (run g d s.2.2))
def buildT : Nat → Hp → List Int → Hp × Int
  | 0, H, l => if l.length = 0 then (H, -1) else (H ++ [([(wordT l : Int)], [])], H.length)
  | g + 1, H, l =>
    if l.length = 0 then (H, -1) else
    (([0, 1, 2, 3].foldl (stepT (buildT g) (g + 1)) (H, [], l)).1 ++ [([], ([0, 1, 2, 3].foldl (stepT (buildT g) (g + 1)) (H, [], l)).2.1)], ([0, 1, 2, 3].foldl (stepT (buildT g) (g + 1)) (H, [], l)).1.length)
def Few (f : Hp → List Int → Hp × Int) (m : Nat) : Prop := ∀ H l, ∃ e, (f H l).1 = H ++ e ∧ e.length ≤ m * l.length
theorem step_few {f : Hp → List Int → Hp × Int} {m : Nat} (hf : Few f m) (g : Nat) (s : Hp × List Int × List Int) (d : Int) : (∃ e, (stepT f g s d).1 = s.1 ++ e ∧ e.length + m * (stepT f g s d).2.2.length ≤ m * s.2.2.length) ∧ (stepT f g s d).2.1.length = s.2.1.length + 1 ∧ (stepT f g s d).2.2.length ≤ s.2.2.length := by
  obtain ⟨e, he, hl⟩ := hf s.1 (s.2.2.take (run g d s.2.2))
  have hr := run_le g d s.2.2
  refine ⟨⟨e, he, ?_⟩, by show (s.2.1 ++ [_]).length = _; simp, ?_⟩
  · have h2 : (stepT f g s d).2.2.length = s.2.2.length - run g d s.2.2 := by show (s.2.2.drop _).length = _; rw [List.length_drop]
    rw [h2]
    rw [List.length_take, Nat.min_eq_left hr] at hl
    have : m * run g d s.2.2 + m * (s.2.2.length - run g d s.2.2) = m * s.2.2.length := by rw [← Nat.mul_add]; congr 1; omega
    omega
  · show (s.2.2.drop _).length ≤ _
    rw [List.length_drop]
    omega
theorem fold_few {f : Hp → List Int → Hp × Int} {m : Nat} (hf : Few f m) (g : Nat) : ∀ (ds : List Int) (s : Hp × List Int × List Int), (∃ e, (ds.foldl (stepT f g) s).1 = s.1 ++ e ∧ e.length + m * (ds.foldl (stepT f g) s).2.2.length ≤ m * s.2.2.length) ∧ (ds.foldl (stepT f g) s).2.1.length = s.2.1.length + ds.length ∧ (ds.foldl (stepT f g) s).2.2.length ≤ s.2.2.length := by
  intro ds
  induction ds with
  | nil => intro s; exact ⟨⟨[], by simp, by simp⟩, rfl, Nat.le_refl _⟩
  | cons d ds ih =>
    intro s
    obtain ⟨⟨e1, h1, h2⟩, h3, h4⟩ := step_few hf g s d
    obtain ⟨⟨e2, k1, k2⟩, k3, k4⟩ := ih (stepT f g s d)
    rw [List.foldl_cons]
    refine ⟨⟨e1 ++ e2, by rw [k1, h1, List.append_assoc], ?_⟩, by rw [k3, h3, List.length_cons]; omega, by omega⟩
    rw [List.length_append]
    omega
theorem build_few : ∀ g : Nat, Few (buildT g) (g + 1) := by
  intro g
  induction g with
  | zero =>
    intro H l
    unfold buildT
    by_cases h : l.length = 0
    · rw [if_pos h]; exact ⟨[], by simp, by simp⟩
    · rw [if_neg h]; exact ⟨_, rfl, by simp; omega⟩
  | succ g ih =>
    intro H l
    unfold buildT
    by_cases h : l.length = 0
    · rw [if_pos h]; exact ⟨[], by simp, by simp⟩
    · rw [if_neg h]
      obtain ⟨⟨e, h1, h2⟩, _⟩ := fold_few ih (g + 1) [0, 1, 2, 3] (H, [], l)
      refine ⟨e ++ [_], by rw [h1, List.append_assoc], ?_⟩
      rw [List.length_append, List.length_singleton]
      have h3 : e.length ≤ (g + 1) * l.length := Nat.le_trans (Nat.le_add_right _ _) h2
      have : (g + 1 + 1) * l.length = (g + 1) * l.length + l.length := by rw [Nat.succ_mul]
      omega
end Sh
theorem digit_calls (x : Nat) (g : Nat) (hx : x ≤ 1023) (hg : g ≤ 4) (w : World) : Calls Tryz.prog 184 #[.int .i64 x, .int .i64 ((5 - g : Nat) : Int)] w fun e w' => e = .returned (.int .i64 (Sh.digT x g)) ∧ w' = w := by
  have hand : ∀ y : Nat, y ≤ 1023 → bits BinOp.and IntKind.i64 (y : Int) 3 = ((y % 4 : Nat) : Int) := fun y hy => by
    have := (bits_nat .i64 62 (by decide) (fun m h0 h1 => IntWalk.i64_in _ (by omega)) y 3 (by omega) (by omega)).1
    rw [show (3 : Nat) = 2 ^ 2 - 1 from rfl, Nat.and_two_pow_sub_one_eq_mod] at this
    exact this
  have e : Sh.digT x g = ((x / 4 ^ g % 4 : Nat) : Int) := by unfold Sh.digT; rfl
  rw [e]
  have hle : x / 4 ^ g ≤ 1023 := Nat.le_trans (Nat.div_le_self _ _) hx
  have h1 := hand _ hle
  rcases (by omega : g = 0 ∨ g = 1 ∨ g = 2 ∨ g = 3 ∨ g = 4) with rfl | rfl | rfl | rfl | rfl
  all_goals
    replace h1 := Lib.hid h1
    clear hle hand e
    go_enter Tryz.func184, Tryz.ntmps184
    go_wp2
    go_ret
    refine ⟨?_, rfl⟩
    show Ending.returned (Value.int .i64 _) = Ending.returned (Value.int .i64 _)
    congr 2
    try (have h9 := h1.out; rw [show x / 4 ^ 0 = x from by rw [Nat.pow_zero, Nat.div_one]] at h9 ⊢; exact h9)
end Go.Proofs.YtbfedeedicnedaaGreat
end
section
namespace Go.Proofs.YtbfedeedicnedaaGreat
open Go.RowKit
open Go.Proofs.YtbfedeedicnedaaGreatW.PrintWords
def Keep3 (w w' : World) : Prop := ∀ (k : Nat) (cs : Array Value), w.heap[k]? = some (.cells cs 3 (0, 0)) → w'.heap[k]? = some (.cells cs 3 (0, 0))
theorem Keep3.trans {a b c : World} (h : Keep3 a b) (k : Keep3 b c) : Keep3 a c := fun i cs hi => k i cs (h i cs hi)
theorem Keep3.alloc (w : World) (o : Obj) : Keep3 w (w.alloc o) := fun k cs hk => blk_alloc hk o
theorem Ints.keep {w w' : World} {base : Nat} {v : Value} {l : List Int} (h : Ints w base v l) (hk : Keep3 w w') : Ints w' base v l := by
  refine Kd.R_mono (Kd.R_move (Kd.R_bound h) (fun k hk2 => ?_)) (fun _ _ => trivial)
  obtain ⟨_, _, _, q, hq, cells, hc⟩ := hk2
  have hq3 : q = 3 := by
    rcases List.mem_cons.1 hq with h | h
    · exact h
    · have : kI.E = [] := rfl
      rw [this] at h
      simp at h
  subst hq3
  rw [hk k cells hc, hc]
def HeapOk (w : World) (base hb : Nat) (H : Sh.Hp) (ok : Nat → Prop) : Prop := base ≤ hb ∧ ∃ v, w.heap[hb]? = some (.cells #[v] 124 (0, 0)) ∧ Kd.R kSN 95 w base ok v (sn H)
theorem HeapAt.ok {w : World} {base hb : Nat} {H : Sh.Hp} (h : HeapAt w base hb H) : HeapOk w base hb H (fun _ => True) := h
theorem HeapOk.at {w : World} {base hb : Nat} {H : Sh.Hp} {ok : Nat → Prop} (h : HeapOk w base hb H ok) : HeapAt w base hb H := by
  obtain ⟨h0, v, hv, hr⟩ := h
  exact ⟨h0, v, hv, Kd.R_mono hr (fun _ _ => trivial)⟩
theorem HeapOk.mono {w : World} {base hb : Nat} {H : Sh.Hp} {ok ok' : Nat → Prop} (h : HeapOk w base hb H ok) (hok : ∀ k, ok k → k < w.heap.size → ok' k) : HeapOk w base hb H ok' := by
  obtain ⟨h0, v, hv, hr⟩ := h
  exact ⟨h0, v, hv, Kd.R_mono (Kd.R_bound hr) (fun k hk => hok k hk.1 hk.2.2.1)⟩
theorem HeapOk.step {w w1 : World} {base hb : Nat} {H : Sh.Hp} {ok : Nat → Prop} (h : HeapOk w base hb H ok) (hB : Below w.heap.size w w1) : HeapOk w1 base hb H ok := by
  obtain ⟨h0, v, hv, hr⟩ := h
  exact ⟨h0, v, (hB.block hb (blk_lt hv)).trans hv, Kd.R_below hr hB⟩
theorem HeapOk.lt {w : World} {base hb : Nat} {H : Sh.Hp} {ok : Nat → Prop} (h : HeapOk w base hb H ok) : hb < w.heap.size := by
  obtain ⟨_, v, h, _⟩ := h
  exact blk_lt h
theorem HeapOk.grown {w w1 : World} {base base' hb : Nat} {H : Sh.Hp} {ok : Nat → Prop} {X : Value} {xs : List Int} (h : HeapOk w base hb H ok) (hX : Ints w base' X xs) (hok : ∀ k, ok k → some k ≠ X.ownBlock) (hg : w.grownBy w1 X.ownBlock) : HeapOk w1 base hb H ok := by
  obtain ⟨h0, v, hv, hr⟩ := h
  have hne : some hb ≠ X.ownBlock := own_ne hX.own hv (by decide)
  exact ⟨h0, v, blk_grown hv hg hne, Kd.R_grown hr hg hok⟩
theorem ints_apart2 {w : World} {base base' n : Nat} {v u : Value} {l : List Int} {ok : Nat → Prop} {cs : List Value} (h : Kd.R kI 3 w base ok v l) (hu : w.ownsRow base' 95 2 u n cs) : Kd.R kI 3 w base (fun k => ok k ∧ some k ≠ u.ownBlock) v l := by
  refine Kd.R_mono (Kd.R_bound h) (fun k hk => ⟨hk.1, fun he => ?_⟩)
  obtain ⟨_, _, _, q, hq, cells, hc⟩ := hk
  have hq3 : q = 3 := by
    rcases List.mem_cons.1 hq with h | h
    · exact h
    · have : kI.E = [] := rfl
      rw [this] at h
      simp at h
  subst hq3
  obtain ⟨cells', hc'⟩ := own_typed hu k he.symm
  rw [hc] at hc'
  simp at hc'
theorem add_ok (base hb : Nat) (H : Sh.Hp) (nums kids : List Int) (v0 v1 : Value) (w : World) (ok : Nat → Prop) (hfr : ∀ k, w.heap.size ≤ k → ok k) (hH : HeapOk w base hb H ok) (h0 : Kd.R kI 3 w base ok v0 nums) (h1 : Kd.R kI 3 w base ok v1 kids) (hl : H.length ≤ 1000000) :
    Calls Tryz.prog 130 #[.pointer (some ⟨hb, 0, none⟩), v0, v1] w fun e w' => e = .returned (.int .i64 H.length) ∧ HeapOk w' base hb (H ++ [(nums, kids)]) ok ∧ Below base w w' ∧ Keep3 w w' := by
  obtain ⟨hb0, v, hv, hr⟩ := hH
  obtain ⟨inner, hown⟩ := Kd.R_own hr
  rw [sn_len] at hown
  have hM : kSN.M w base (fun k => ok k ∧ some k ≠ v.ownBlock) (⟨nums, kids⟩ : SN) [v0, v1] := PAll.k95_mkM w base _ ⟨nums, kids⟩ (Kd.R_mono (ints_apart2 h0 hown) (fun _ hk => hk)) (Kd.R_mono (ints_apart2 h1 hown) (fun _ hk => hk))
  obtain ⟨A, c, rfl⟩ := Kd.R_slice hr
  have hlt := blk_lt hv
  have hne : some hb ≠ (Value.slice A (sn H).length c).ownBlock := own_ne hown hv (by decide)
  have hcell0 : w.cell? ⟨hb, 0, none⟩ = some (.slice A (sn H).length c) := by rw [blk_cell hv]; rfl
  have hkp := Lib.hid (fun (w1 : World) (hg : w.grownBy w1 (Value.slice A (sn H).length c).ownBlock) (u : Value) => (fun k cs hk => by
    have hk1 : some k ≠ (Value.slice A (sn H).length c).ownBlock := own_ne hown hk (by decide)
    have hk2 : k ≠ hb := fun e => by rw [e, hv] at hk; simp at hk
    have h2 : w1.heap[k]? = some (.cells cs 3 (0, 0)) := (hg.block k (blk_lt hk) hk1).trans hk
    rw [Below.heap_setCell w1 ⟨hb, 0, none⟩ u k (by exact hk2)]
    exact h2 : Keep3 w (w1.setCell ⟨hb, 0, none⟩ u)))
  have hrh := Lib.hid hr
  have hfrh := Lib.hid hfr
  have hMh := Lib.hid hM
  have hvh := Lib.hid hv
  obtain ⟨A0, n0, c0, rfl⟩ : ∃ A0 n0 c0, v0 = .slice A0 n0 c0 := by obtain ⟨a, b, h, _⟩ := Kd.R_reads h0; exact ⟨_, _, _, h⟩
  obtain ⟨A1, n1, c1, rfl⟩ : ∃ A1 n1 c1, v1 = .slice A1 n1 c1 := by obtain ⟨a, b, h, _⟩ := Kd.R_reads h1; exact ⟨_, _, _, h⟩
  have hsz : base ≤ w.heap.size := by omega
  have hl2 : (sn H).length ≤ 1000000 := by rw [sn_len]; exact hl
  clear hr hM h0 h1 hown hv hfr
  go_enter Tryz.func130, Tryz.ntmps130
  go_wp2_with (at_builtin; refine Kd.R_append kSN (w0 := w) (W := w) base rfl _ _ 22 95 (.agg #[(.slice none 0 0), (.slice none 0 0)]) 48 rfl (by kernel_rfl) nd_info rfl (by decide) (by omega) (.slice A (sn H).length c) (sn H) ⟨nums, kids⟩ [.slice A0 n0 c0, .slice A1 n1 c1] ok (fun k => ok k ∧ some k ≠ (Value.slice A (sn H).length c).ownBlock) rfl rfl hMh.out (fun k hk => hk) hfrh.out hrh.out (Below.refl _ _) hsz (by rw [sn_len]; omega) ?_; intro u w1 hu hB1 hg1 _; obtain ⟨A', c', rfl, hc', hC'⟩ := Kd.R_reads hu; have hv1 := blk_grown hvh.out hg1 hne; have hcl1 : w1.cell? ⟨hb, 0, none⟩ = some (.slice A (sn H).length c) := (by rw [blk_cell hv1]; rfl); have hfr1 : w1.frozen? ⟨hb, 0, none⟩ = false := blk_frozen hv1 0; replace hv1 := Lib.hid hv1; replace hu := Lib.hid hu; replace hB1 := Lib.hid hB1; have hk1 := Lib.hid (hkp.out w1 hg1); clear hg1 hC' hne hc')
  go_ret
  rw [← sn_len H]
  refine ⟨rfl, ⟨hb0, Value.slice A' ((sn H).length + 1) c', blk_set hv1.out 0 _, ?_⟩, ?_, hk1.out _⟩
  · rw [sn_app]
    have hu2 := hu.out
    rw [List.length_append] at hu2
    exact Kd.R_set hu2 hv1.out (fun q hq => by rcases kSN_E q hq with rfl | rfl <;> decide) 0 _
  · exact hB1.out.setCell (p := ⟨hb, 0, none⟩) hb0 _
section
variable {ops : Array Oper} {rest : List Oper} {o : Oper} {a : Act} {Q : Exit → Act → World → Prop}
end
section
variable {ops : Array Oper} {o : Oper} {a : Act} {Q : Exit → Act → World → Prop} {Kc : Act → World → Prop}
theorem app_step {w0 W : World} (base : Nat) (hw : Region.wanted o (yielded ops a.tmps) = true) (s x : Operand)
    (ho : o.op = .call { callee := .builtin .append, args := #[s, x], argTypes := #[28, 28] })
    (v : Value) (xs : List Int) (y : Int) (hs : a.eval s = v) (hx : a.eval x = .slice (some ⟨W.heap.size, 0, none⟩) 1 1)
    (HO : Ints W base v xs) (HB : Below base w0 W) (hbase : base ≤ W.heap.size) (hl : xs.length ≤ 1000000)
    (h : ∀ v1 w1, Ints w1 base v1 (xs ++ [y]) → Below base w0 w1 → W.grownBy w1 v.ownBlock → (v1.ownBlock = v.ownBlock ∨ ∃ b, v1.ownBlock = some b ∧ W.heap.size ≤ b) → Kc (a.put o.dst v1) w1) :
    if Region.wanted o (yielded ops a.tmps) = true then Oper.wp Tryz.prog o a (W.alloc (.cells #[.int .i64 y] 3)) Kc Q else Kc (a.put o.dst undef) (W.alloc (.cells #[.int .i64 y] 3)) :=
  Kd.R_append_step kI base hw s x 28 3 (.int .i64 0) 8 ho (by kernel_rfl) PAll.info3 rfl (by decide) (by omega) v xs y [.int .i64 y] (fun _ => True) (fun _ => False) hs hx rfl (fun _ h => h.elim) (fun _ _ => trivial) HO HB hbase (by omega) h
end
end Go.Proofs.YtbfedeedicnedaaGreat
end
section
namespace Go.Proofs.YtbfedeedicnedaaGreat
open Go.RowKit
open Go.Proofs.YtbfedeedicnedaaGreatW.PrintWords
namespace Sh
theorem run_at (g : Nat) (d : Int) (l : List Int) (k : Nat) (h : k < l.length) : run g d (l.drop k) = if digT (gi l k) g = d then 1 + run g d (l.drop (k + 1)) else 0 := by
  rw [drop_at' l k h]
  rfl
def wordAt (l : List Int) (k : Nat) : Nat := wordT (l.take k)
theorem word_at (l : List Int) (k : Nat) (h : k < l.length) : wordAt l (k + 1) = wordAt l k ||| 2 ^ (digT (gi l k) 0).toNat := by
  unfold wordAt wordT
  rw [List.take_succ_eq_append_getElem h, List.foldl_append]
  unfold gi
  rw [List.getD_eq_getElem?_getD, List.getElem?_eq_getElem h]
  rfl
theorem word_lt (l : List Int) : wordT l < 16 := by
  unfold wordT
  suffices h : ∀ (l : List Int) (w : Nat), w < 16 → l.foldl (fun w x => w ||| 2 ^ (digT x 0).toNat) w < 16 from h l 0 (by omega)
  intro l
  induction l with
  | nil => intro w h; exact h
  | cons x l ih =>
    intro w h
    refine ih _ ?_
    have := digT_lt x 0
    have h2 : 2 ^ (digT x 0).toNat < 2 ^ 4 := Nat.pow_lt_pow_right (by omega) (by omega)
    exact Nat.or_lt_two_pow (n := 4) h h2
end Sh
theorem digit_at {w : World} (x : Int) (g : Nat) (h0 : 0 ≤ x) (hx : x ≤ 1023) (hg : g ≤ 4) {b : Int} (h : Sh.digT x g = b) : Calls Tryz.prog 184 #[.int .i64 x, .int .i64 ((5 - g : Nat) : Int)] w fun e w' => e = .returned (.int .i64 b) ∧ w' = w := by
  subst h
  obtain ⟨i, rfl⟩ := Int.eq_ofNat_of_zero_le h0
  exact digit_calls i g (by omega) hg w
theorem leaf_calls (base hb : Nat) (H : Sh.Hp) (w : World) (ok : Nat → Prop) (hfr : ∀ k, w.heap.size ≤ k → ok k) (hH : HeapOk w base hb H ok) (l : List Int) (A : Option Addr) (c : Nat) (hL : Low w base A l) (hc : l.length ≤ c) (hn : l.length ≤ 5000) (hx : ∀ x ∈ l, 0 ≤ x ∧ x ≤ 1023) (hl : H.length ≤ 500000) :
    Calls Tryz.prog 185 #[.agg #[], .pointer (some ⟨hb, 0, none⟩), .slice A l.length c, .int .i64 5] w fun e w' => e = .returned (.int .i64 (Sh.buildT 0 H l).2) ∧ HeapOk w' base hb (Sh.buildT 0 H l).1 ok ∧ Below base w w' ∧ Keep3 w w' := by
  have hsz : base ≤ w.heap.size := by have := hH.1; have := hH.lt; omega
  have hB0 := Lib.hid (show Below base w (w.alloc (.cells #[] 156)) from (Below.refl _ _).alloc hsz _)
  have hH0 := Lib.hid (hH.step (w1 := w.alloc (.cells #[] 156)) ((Below.refl _ _).alloc (Nat.le_refl _) _))
  unfold Sh.buildT
  by_cases h0 : l.length = 0
  · rw [if_pos h0]
    go_enter Tryz.func185, Tryz.ntmps185
    go_wp2
    go_ret
    exact ⟨rfl, hH0.out, hB0.out, Keep3.alloc _ _⟩
  · rw [if_neg h0]
    have hs1 := Lib.hid (show base ≤ (w.alloc (.cells #[] 156)).heap.size by rw [World.size_alloc]; omega)
    have had := Lib.hid (fun W v z (hs : w.heap.size ≤ W.heap.size) (hW : HeapOk W base hb H ok) (hv : Kd.R kI 3 W base ok v [z]) => add_ok base hb H [z] [] v (.slice none 0 0) W ok (fun k hk => hfr k (by omega)) hW hv (Kd.R_nil _ _ _ _ _) (by omega))
    have hLh := Lib.hid (hL _ hB0.out)
    have hxh := Lib.hid (fun k (h : k < l.length) => hx (Sh.gi l k) (by unfold Sh.gi; rw [List.getD_eq_getElem?_getD, List.getElem?_eq_getElem h]; exact List.getElem_mem h))
    obtain ⟨n, hn'⟩ : ∃ n, n = l.length := ⟨_, rfl⟩
    rw [← hn'] at hLh hc hn h0
    rw [← hn']
    replace hn' := Lib.hid hn'
    have hn0 : ((n : Int) == 0) = false := by rw [beq_eq_false_iff_ne]; omega
    have hfrh := Lib.hid hfr
    clear hH hL hx hfr
    go_enter Tryz.func185, Tryz.ntmps185
    go_wp2
    go_loopg [9, 22] n (fun gg v9 v22 wr => ∃ (k m : Nat), v9 = .int .i64 m ∧ v22 = .int .i64 k ∧ k ≤ n ∧ m < 16 ∧ Hid (gg + k = n) ∧ wr = w.alloc (.cells #[] 156) ∧ Hid (m = Sh.wordAt l k))
    case atStart => exact ⟨0, 0, rfl, rfl, Nat.zero_le _, by omega, Lib.hid rfl, rfl, Lib.hid rfl⟩
    case round =>
      obtain ⟨k, m, rfl, rfl, hk, hm, hg, rfl, hmw⟩ := hrel
      by_cases hlt : k < n
      · obtain ⟨ad0, rfl, e0⟩ := at_int hLh.out k (by omega) (by omega)
        rw [Int.toNat_natCast] at e0
        have hw := Lib.hid (Sh.word_at l k (by have := hn'.out; omega))
        obtain ⟨x0, x1⟩ := hxh.out k (by have := hn'.out; omega)
        obtain ⟨x, hxx⟩ : ∃ x, x = Sh.gi l k := ⟨_, rfl⟩
        rw [← hxx] at e0 hw x0 x1
        replace hxx := Lib.hid hxx
        obtain ⟨d0, d1⟩ := Sh.digT_lt x 0
        have hdg := Lib.hid (fun W => digit_at (w := W) x 0 x0 x1 (by omega) (b := Sh.digT x 0) rfl)
        generalize Sh.digT x 0 = d at *
        have hml := Lib.hid (Sh.word_lt (l.take (k + 1)))
        have hor : ∀ q : Nat, q ≤ 16 → bits BinOp.or IntKind.i64 (m : Int) (q : Int) = ((m ||| q : Nat) : Int) := fun q hq => (bits_nat .i64 62 (by decide) (fun m h0 h1 => IntWalk.i64_in _ (by omega)) m q (by omega) (by omega)).2
        rcases (by omega : d = 0 ∨ d = 1 ∨ d = 2 ∨ d = 3) with rfl | rfl | rfl | rfl
        · have ho := hor 1 (by omega)
          obtain ⟨r, hr⟩ : ∃ r, r = m ||| 1 := ⟨_, rfl⟩
          have hr2 := Lib.hid (show r = Sh.wordAt l (k + 1) by rw [hr, hw.out, hmw.out]; rfl)
          have hr3 : r < 16 := by rw [hr2.out]; exact hml.out
          have hoi : bits BinOp.or IntKind.i64 (m : Int) 1 = (r : Int) := by rw [hr]; exact ho
          clear hor ho hr
          go_wp2_with fail
          refine (hdg.out _).mono ?_
          rintro e w1 ⟨rfl, rfl⟩
          go_wp2
          go_roundg (n - (k + 1))
          case measure => have := hg.out; omega
          case rel => exact ⟨k + 1, r, by go_num, by go_num, by omega, hr3, Lib.hid (by omega), rfl, hr2⟩
        · have ho := hor 2 (by omega)
          obtain ⟨r, hr⟩ : ∃ r, r = m ||| 2 := ⟨_, rfl⟩
          have hr2 := Lib.hid (show r = Sh.wordAt l (k + 1) by rw [hr, hw.out, hmw.out]; rfl)
          have hr3 : r < 16 := by rw [hr2.out]; exact hml.out
          have hoi : bits BinOp.or IntKind.i64 (m : Int) 2 = (r : Int) := by rw [hr]; exact ho
          clear hor ho hr
          go_wp2_with fail
          refine (hdg.out _).mono ?_
          rintro e w1 ⟨rfl, rfl⟩
          go_wp2
          go_roundg (n - (k + 1))
          case measure => have := hg.out; omega
          case rel => exact ⟨k + 1, r, by go_num, by go_num, by omega, hr3, Lib.hid (by omega), rfl, hr2⟩
        · have ho := hor 4 (by omega)
          obtain ⟨r, hr⟩ : ∃ r, r = m ||| 4 := ⟨_, rfl⟩
          have hr2 := Lib.hid (show r = Sh.wordAt l (k + 1) by rw [hr, hw.out, hmw.out]; rfl)
          have hr3 : r < 16 := by rw [hr2.out]; exact hml.out
          have hoi : bits BinOp.or IntKind.i64 (m : Int) 4 = (r : Int) := by rw [hr]; exact ho
          clear hor ho hr
          go_wp2_with fail
          refine (hdg.out _).mono ?_
          rintro e w1 ⟨rfl, rfl⟩
          go_wp2
          go_roundg (n - (k + 1))
          case measure => have := hg.out; omega
          case rel => exact ⟨k + 1, r, by go_num, by go_num, by omega, hr3, Lib.hid (by omega), rfl, hr2⟩
        · have ho := hor 8 (by omega)
          obtain ⟨r, hr⟩ : ∃ r, r = m ||| 8 := ⟨_, rfl⟩
          have hr2 := Lib.hid (show r = Sh.wordAt l (k + 1) by rw [hr, hw.out, hmw.out]; rfl)
          have hr3 : r < 16 := by rw [hr2.out]; exact hml.out
          have hoi : bits BinOp.or IntKind.i64 (m : Int) 8 = (r : Int) := by rw [hr]; exact ho
          clear hor ho hr
          go_wp2_with fail
          refine (hdg.out _).mono ?_
          rintro e w1 ⟨rfl, rfl⟩
          go_wp2
          go_roundg (n - (k + 1))
          case measure => have := hg.out; omega
          case rel => exact ⟨k + 1, r, by go_num, by go_num, by omega, hr3, Lib.hid (by omega), rfl, hr2⟩
      · have hme : m = Sh.wordT l := by rw [hmw.out]; unfold Sh.wordAt; rw [List.take_of_length_le (by have := hn'.out; omega)]
        replace hme := Lib.hid hme
        have hli := Lib.hid (show Kd.R kI 3 ((w.alloc (.cells #[] 156)).alloc (.cells #[.int .i64 m] 3)) base ok (.slice (some ⟨w.heap.size + 1, 0, none⟩) 1 1) [(m : Int)] by
          have := lit_ints (w.alloc (.cells #[] 156)) base [(m : Int)] #[.int .i64 m] 1 hs1.out (by simp) rfl rfl
          rw [World.size_alloc] at this
          exact Kd.R_reok rfl this (fun k hk => hfrh.out k (by cases hk; show w.heap.size ≤ w.heap.size + 1; omega)))
        have hHl := Lib.hid (hH0.out.step (w1 := (w.alloc (.cells #[] 156)).alloc (.cells #[.int .i64 m] 3)) ((Below.refl _ _).alloc (Nat.le_refl _) _))
        have hBl := Lib.hid (hB0.out.alloc hs1.out (.cells #[.int .i64 m] 3))
        go_wp2_with fail
        refine (had.out _ _ _ (by rw [World.size_alloc, World.size_alloc]; omega) hHl.out hli.out).mono ?_
        rintro e w2 ⟨rfl, hH2, hB2, hK2⟩
        rw [hme.out] at hH2
        replace hH2 := Lib.hid hH2
        have hB3 := Lib.hid (Below.trans hBl.out hB2)
        replace hK2 := Lib.hid (((Keep3.alloc w _).trans (Keep3.alloc _ _)).trans hK2)
        clear hB2
        go_wp2
        go_ret
        exact ⟨rfl, hH2.out, hB3.out, hK2.out⟩
end Go.Proofs.YtbfedeedicnedaaGreat
end
section
namespace Go.Proofs.YtbfedeedicnedaaGreat
open Go.RowKit
open Go.Proofs.YtbfedeedicnedaaGreatW.PrintWords
namespace Sh
theorem four_at (d : Nat) (h : d < 4) : ([0, 1, 2, 3] : List Int).drop d = (d : Int) :: ([0, 1, 2, 3] : List Int).drop (d + 1) := by
  rcases (by omega : d = 0 ∨ d = 1 ∨ d = 2 ∨ d = 3) with rfl | rfl | rfl | rfl <;> rfl
end Sh
theorem heap_next {w1 w2 : World} {base base' hb : Nat} {H : Sh.Hp} {ok : Nat → Prop} {X v1 : Value} {xs : List Int} (h : HeapOk w1 base hb H (fun k => ok k ∧ some k ≠ X.ownBlock)) (hX : Ints w1 base' X xs) (hg : w1.grownBy w2 X.ownBlock) (hat : v1.ownBlock = X.ownBlock ∨ ∃ b, v1.ownBlock = some b ∧ w1.heap.size ≤ b) : HeapOk w2 base hb H (fun k => ok k ∧ some k ≠ v1.ownBlock) := by
  have h2 : HeapOk w1 base hb H (fun k => (ok k ∧ some k ≠ v1.ownBlock) ∧ some k ≠ X.ownBlock) := h.mono (fun k hk hlt => ⟨⟨hk.1, fun he => by
    rcases hat with e | ⟨b, e, hb⟩
    · rw [e] at he; exact hk.2 he
    · rw [e] at he; have := Option.some.inj he; omega⟩, hk.2⟩)
  exact (h2.grown hX (fun k hk => hk.2) hg).mono (fun k hk _ => hk.1)
theorem build_calls (base hb : Nat) : ∀ (g : Nat), g ≤ 4 → ∀ (H : Sh.Hp) (w : World) (ok : Nat → Prop), (∀ k, w.heap.size ≤ k → ok k) → HeapOk w base hb H ok → ∀ (l : List Int) (A : Option Addr) (c : Nat), Low w base A l → l.length ≤ c → l.length ≤ 5000 → (∀ x ∈ l, 0 ≤ x ∧ x ≤ 1023) → H.length + (g + 1) * l.length ≤ 400000 →
    Calls Tryz.prog 185 #[.agg #[], .pointer (some ⟨hb, 0, none⟩), .slice A l.length c, .int .i64 ((5 - g : Nat) : Int)] w fun e w' => e = .returned (.int .i64 (Sh.buildT g H l).2) ∧ HeapOk w' base hb (Sh.buildT g H l).1 ok ∧ Below base w w' ∧ Keep3 w w' := by
  intro g
  induction g with
  | zero =>
    intro _ H w ok hfr hH l A c hL hc hn hx hl
    exact leaf_calls base hb H w ok hfr hH l A c hL hc hn hx (by omega)
  | succ g ih =>
    intro hg4 H w ok hfr hH l A c hL hc hn hx hl
    have hsz : base ≤ w.heap.size := by have := hH.1; have := hH.lt; omega
    have hB0 := Lib.hid (show Below base w (w.alloc (.cells #[] 156)) from (Below.refl _ _).alloc hsz _)
    have hH0 := Lib.hid (hH.step (w1 := w.alloc (.cells #[] 156)) ((Below.refl _ _).alloc (Nat.le_refl _) _))
    obtain ⟨lv, hlv⟩ : ∃ lv, lv = 5 - (g + 1) := ⟨_, rfl⟩
    have hlv5 : ((lv : Int) == 5) = false := by rw [beq_eq_false_iff_ne]; omega
    have hlv1 : IntKind.i64.wrap ((lv : Int) + 1) = ((5 - g : Nat) : Int) := by rw [IntWalk.i64_in _ (by omega)]; omega
    rw [← hlv]
    replace hlv := Lib.hid hlv
    unfold Sh.buildT
    by_cases h0 : l.length = 0
    · rw [if_pos h0]
      clear ih
      go_enter Tryz.func185, Tryz.ntmps185
      go_wp2
      go_ret
      exact ⟨rfl, hH0.out, hB0.out, Keep3.alloc _ _⟩
    · rw [if_neg h0]
      obtain ⟨F, hF⟩ : ∃ F, F = [0, 1, 2, 3].foldl (Sh.stepT (Sh.buildT g) (g + 1)) (H, [], l) := ⟨_, rfl⟩
      rw [← hF]
      have hfew := Lib.hid (Sh.step_few (Sh.build_few g) (g + 1))
      have hn0 : ((l.length : Int) == 0) = false := by rw [beq_eq_false_iff_ne]; omega
      obtain ⟨W1, hW1⟩ : ∃ W1, W1 = w.alloc (.cells #[] 156) := ⟨_, rfl⟩
      have hbox : ∀ W, Below W1.heap.size W1 W → W.cell? ⟨w.heap.size, 0, none⟩ = none ∨ True := fun _ _ => .inr trivial
      have hs1 := Lib.hid (show w.heap.size + 1 = W1.heap.size by rw [hW1, World.size_alloc])
      have hk1 := Lib.hid (show Keep3 w W1 by rw [hW1]; exact Keep3.alloc _ _)
      have hB1 := Lib.hid (show Below base w W1 by rw [hW1]; exact hB0.out)
      have hH1 := Lib.hid (show HeapOk W1 base hb H (fun k => ok k ∧ some k ≠ (Value.slice none 0 0).ownBlock) by rw [hW1]; exact hH0.out.mono (fun k hk _ => ⟨hk, by intro h; cases h⟩))
      have hL1 := Lib.hid (show Low W1 base A l from hL.step hB1.out)
      have ihh := Lib.hid (ih (by omega))
      have hxh := Lib.hid hx
      replace hF := Lib.hid hF
      replace hsz := Lib.hid hsz
      have hfrh := Lib.hid hfr
      clear hB0 hH0 hbox ih hH hL hx h0 hfr
      go_enter Tryz.func185, Tryz.ntmps185
      go_wp2
      rw [← hW1]
      clear hW1
      go_loopg [2, 12, 37] 4 (fun gg v2 v12 v37 wr => ∃ (X : Value) (d : Nat) (H2 : Sh.Hp) (ks ls : List Int) (A' : Option Addr) (c' : Nat), X = v12 ∧ v2 = .slice A' ls.length c' ∧ v37 = .int .i64 d ∧ d ≤ 4 ∧ Hid (gg + d = 4) ∧ Hid (HeapOk wr base hb H2 (fun k => ok k ∧ some k ≠ v12.ownBlock)) ∧ Hid (Ints wr w.heap.size v12 ks) ∧ Hid (Low wr base A' ls) ∧ ls.length ≤ c' ∧ ls.length ≤ l.length ∧ Hid (Below base w wr) ∧ Hid (Keep3 w wr) ∧ Hid (w.heap.size ≤ wr.heap.size) ∧ Hid (F = (([0, 1, 2, 3] : List Int).drop d).foldl (Sh.stepT (Sh.buildT g) (g + 1)) (H2, ks, ls)) ∧ Hid (∀ x ∈ ls, 0 ≤ x ∧ x ≤ 1023) ∧ Hid (H2.length + (g + 1) * ls.length ≤ 400000) ∧ Hid (ks.length = d))
      case atStart => exact ⟨_, 0, H, [], l, A, c, rfl, rfl, rfl, by omega, Lib.hid rfl, hH1, Lib.hid (Kd.R_nil _ _ _ _ _), hL1, hc, Nat.le_refl _, hB1, hk1, Lib.hid (by have := hs1.out; omega), hF, hxh, Lib.hid (by show H.length + (g + 1) * l.length ≤ 400000; have : (g + 1 + 1) * l.length = (g + 1) * l.length + l.length := Nat.succ_mul _ _; omega), Lib.hid rfl⟩
      case round =>
        obtain ⟨X, d, H2, ks, ls, A', c', rfl, rfl, rfl, hd, hg, hHr, hX, hLr, hcr, hlr, hBr, hKr, hsr, hFr, hxr, hbr, hkl⟩ := hrel
        by_cases hlt : d < 4
        · have hd4 : decide ((d : Int) < 4) = true := decide_eq_true (by omega)
          rw [Sh.four_at d hlt, List.foldl_cons] at hFr
          have hfw := hfew.out (H2, ks, ls) (d : Int)
          obtain ⟨K, hK⟩ : ∃ K, K = Sh.run (g + 1) (d : Int) ls := ⟨_, rfl⟩
          have hKl : K ≤ ls.length := by rw [hK]; exact Sh.run_le _ _ _
          have hxk := Lib.hid (fun k (h : k < ls.length) => hxr.out (Sh.gi ls k) (by unfold Sh.gi; rw [List.getD_eq_getElem?_getD, List.getElem?_eq_getElem h]; exact List.getElem_mem h))
          have hst : Sh.stepT (Sh.buildT g) (g + 1) (H2, ks, ls) (d : Int) = ((Sh.buildT g H2 (ls.take K)).1, ks ++ [(Sh.buildT g H2 (ls.take K)).2], ls.drop K) := by rw [hK]; rfl
          rw [hst] at hfw
          have hFr2 := hFr.out
          rw [hst] at hFr2
          clear hFr
          have hFr := hFr2
          obtain ⟨⟨e1, f1, f2⟩, f3, f4⟩ : (∃ e, (Sh.buildT g H2 (ls.take K)).1 = H2 ++ e ∧ e.length + (g + 1) * (ls.drop K).length ≤ (g + 1) * ls.length) ∧ (ks ++ [(Sh.buildT g H2 (ls.take K)).2]).length = ks.length + 1 ∧ (ls.drop K).length ≤ ls.length := hfw
          obtain ⟨t1, t2, t3⟩ := take_at A' c' ls K hKl hcr
          obtain ⟨A2, s1, s2, s3⟩ := drop_at A' c' ls K hKl hcr
          have hlt2 : (ls.take K).length = K := by rw [List.length_take]; omega
          have hcl := Lib.hid (fun W (hs : wr.heap.size ≤ W.heap.size) (hW : HeapOk W base hb H2 (fun k => ok k ∧ some k ≠ X.ownBlock)) (hB : Below base wr W) => ihh.out H2 W (fun k => ok k ∧ some k ≠ X.ownBlock) (fun k hk => ⟨hfrh.out k (by have := hsr.out; omega), fun he => by have := ((Kd.R_bound hX.out).1 k he.symm).2.2.1; omega⟩) hW (ls.take K) A' c' (fun W' hW' => t2 W' (hLr.out W' (hB.trans hW'))) t3 (by rw [hlt2]; omega) (fun x hx => hxr.out x (List.mem_of_mem_take hx)) (by
            have h9 := hbr.out
            rw [hlt2]
            have : (g + 1) * K ≤ (g + 1) * ls.length := Nat.mul_le_mul_left _ hKl
            omega))
          rw [hlt2] at hcl t1
          have hL2 := Lib.hid (fun W (hB : Below base wr W) => (fun W' hW' => s2 W' (hLr.out W' (hB.trans hW')) : Low W base A2 (ls.drop K)))
          have hx2 := Lib.hid (fun x (hx : x ∈ ls.drop K) => hxr.out x (List.mem_of_mem_drop hx))
          have hb2 := Lib.hid (show (Sh.buildT g H2 (ls.take K)).1.length + (g + 1) * (ls.drop K).length ≤ 400000 by
            have h9 := hbr.out
            rw [f1, List.length_append]
            omega)
          generalize Sh.buildT g H2 (ls.take K) = B at *
          have hdl := Lib.hid (show (ls.drop K).length = ls.length - K from List.length_drop)
          have hdm := Lib.hid (show (ls.drop K).length ≤ l.length by rw [List.length_drop]; omega)
          obtain ⟨m, hm⟩ : ∃ m, m = ls.length := ⟨_, rfl⟩
          have hKh := Lib.hid hK
          rw [← hm] at hcr hlr hKl t1 s1 hxk ⊢
          replace hm := Lib.hid hm
          have hFr' := Lib.hid hFr
          replace f3 := f3
          clear hK f1 f2 t2 s2 hst hlt2 hbr hxr
          go_wp2
          go_loopg [14] m (fun g3 v14 wr3 => ∃ k : Nat, v14 = .int .i64 k ∧ k ≤ m ∧ Hid (g3 + k = m) ∧ wr3 = wr ∧ Hid (K = k + Sh.run (g + 1) (d : Int) (ls.drop k)))
          case atStart => exact ⟨0, rfl, Nat.zero_le _, Lib.hid rfl, rfl, Lib.hid (by rw [hKh.out]; exact (Nat.zero_add _).symm)⟩
          case round =>
            obtain ⟨k, rfl, hk, hg3, rfl, hKk⟩ := hrel
            by_cases hkm : k < m
            · have hCw := hLr.out.now
              obtain ⟨ad0, e9, e0⟩ := at_int hCw k (by omega) (by have := hm.out; omega)
              rw [Int.toNat_natCast] at e0
              subst e9
              obtain ⟨x0, x1⟩ := hxk.out k hkm
              have hra := Sh.run_at (g + 1) (d : Int) ls k (by have := hm.out; omega)
              obtain ⟨x, hxx⟩ : ∃ x, x = Sh.gi ls k := ⟨_, rfl⟩
              rw [← hxx] at e0 hra x0 x1
              obtain ⟨y, hy⟩ : ∃ y, y = Sh.digT x (g + 1) := ⟨_, rfl⟩
              rw [← hy] at hra
              have hdg := Lib.hid (fun W => digit_at (w := W) x (g + 1) x0 x1 hg4 (b := y) hy.symm)
              rw [← hlv.out] at hdg
              clear hCw hxx hy
              by_cases hyd : y = (d : Int)
              · rw [if_pos hyd] at hra
                have hK2 := Lib.hid (show K = (k + 1) + Sh.run (g + 1) (d : Int) (ls.drop (k + 1)) by rw [hKk.out, hra]; omega)
                have hydb : (y == (d : Int)) = true := beq_iff_eq.mpr hyd
                clear hra hyd
                go_wp2_with fail
                refine (hdg.out _).mono ?_
                rintro e w5 ⟨rfl, rfl⟩
                go_wp2
                go_roundg (m - (k + 1))
                case measure => have := hg3.out; omega
                case rel => exact ⟨k + 1, by go_num, by omega, Lib.hid (by omega), rfl, hK2⟩
              · rw [if_neg hyd] at hra
                obtain rfl : K = k := by rw [hKk.out, hra]; rfl
                have hydb : (y == (d : Int)) = false := beq_eq_false_iff_ne.mpr hyd
                clear hra hyd
                go_wp2_with fail
                refine (hdg.out _).mono ?_
                rintro e w5 ⟨rfl, rfl⟩
                go_wp2
                have hs9 := Lib.hid (show w.heap.size ≤ w5.drew.heap.size from hsr.out)
                go_region_held3 (fun W' => True)
                  (first
                    | exact trivial
                    | fail)
                  (first
                    | (go_at_call 185; refine (hcl.out w5.drew (Nat.le_refl _) (hHr.out.step (Below.refl _ _).drew) ((Below.refl _ _).drew)).mono ?_; rintro e w3 ⟨rfl, hH3, hB3, hK3⟩; have hX3 := Lib.hid (Ints.keep (Kd.R_drew hX.out) hK3); have hH3' := Lib.hid hH3; have hs3 := Lib.hid (show w.heap.size ≤ w3.heap.size from Nat.le_trans hsr.out (show w5.heap.size ≤ w3.heap.size from hB3.size)); have hBr3 := Lib.hid (Below.trans (show Below base w5 w5.drew from (Below.refl _ _).drew) hB3); have hK3' := Lib.hid (show Keep3 w w3 from hKr.out.trans (show Keep3 w5 w3 from hK3)); clear hH3 hB3 hK3)
                    | (refine app_step w.heap.size (by rfl) _ _ (by rfl) X ks B.2 rfl rfl hX3.out (Below.refl w.heap.size w3) hs3.out (by have := hkl.out; omega) ?_; intro v1 w4 a1 a2 a3 a4; have hH4 := Lib.hid (show HeapOk w4 base hb B.1 (fun k => ok k ∧ some k ≠ v1.ownBlock) from heap_next hH3'.out hX3.out a3 a4); have hK4 := Lib.hid (show Keep3 w w4 from fun k cs hk => (a2.block k (blk_lt hk)).trans (hK3'.out k cs hk)); have hB4 := Lib.hid (show Below base w5 w4 from hBr3.out.trans (a2.mono hsz.out)); have hs4 := Lib.hid (show w.heap.size ≤ w4.heap.size from Nat.le_trans hs3.out a2.size); have ha1 := Lib.hid a1; clear a1 a2 a3 a4))
                go_wp2
                go_roundg (4 - (d + 1))
                case measure => have := hg.out; omega
                case rel => exact ⟨v1, d + 1, B.1, ks ++ [B.2], ls.drop K, A2, c' - K, rfl, by rw [hdl.out], by go_num, by omega, Lib.hid (by omega), hH4, ha1, Lib.hid (hL2.out w4 hB4.out), s3, hdm.out, Lib.hid (hBr.out.trans hB4.out), hK4, hs4, hFr', hx2, hb2, Lib.hid (by rw [f3]; have := hkl.out; omega)⟩
            · obtain rfl : K = k := by
                have h9 := hKk.out
                rw [List.drop_of_length_le (by have := hm.out; omega)] at h9
                exact h9
              go_wp2
              have hs9 := Lib.hid (show w.heap.size ≤ wr.drew.heap.size from hsr.out)
              go_region_held3 (fun W' => True)
                (first
                  | exact trivial
                  | fail)
                (first
                  | (go_at_call 185; refine (hcl.out wr.drew (Nat.le_refl _) (hHr.out.step (Below.refl _ _).drew) ((Below.refl _ _).drew)).mono ?_; rintro e w3 ⟨rfl, hH3, hB3, hK3⟩; have hX3 := Lib.hid (Ints.keep (Kd.R_drew hX.out) hK3); have hH3' := Lib.hid hH3; have hs3 := Lib.hid (show w.heap.size ≤ w3.heap.size from Nat.le_trans hsr.out (show wr.heap.size ≤ w3.heap.size from hB3.size)); have hBr3 := Lib.hid (Below.trans (show Below base wr wr.drew from (Below.refl _ _).drew) hB3); have hK3' := Lib.hid (show Keep3 w w3 from hKr.out.trans (show Keep3 wr w3 from hK3)); clear hH3 hB3 hK3)
                  | (refine app_step w.heap.size (by rfl) _ _ (by rfl) X ks B.2 rfl rfl hX3.out (Below.refl w.heap.size w3) hs3.out (by have := hkl.out; omega) ?_; intro v1 w4 a1 a2 a3 a4; have hH4 := Lib.hid (show HeapOk w4 base hb B.1 (fun k => ok k ∧ some k ≠ v1.ownBlock) from heap_next hH3'.out hX3.out a3 a4); have hK4 := Lib.hid (show Keep3 w w4 from fun k cs hk => (a2.block k (blk_lt hk)).trans (hK3'.out k cs hk)); have hB4 := Lib.hid (show Below base wr w4 from hBr3.out.trans (a2.mono hsz.out)); have hs4 := Lib.hid (show w.heap.size ≤ w4.heap.size from Nat.le_trans hs3.out a2.size); have ha1 := Lib.hid a1; clear a1 a2 a3 a4))
              go_wp2
              go_roundg (4 - (d + 1))
              case measure => have := hg.out; omega
              case rel => exact ⟨v1, d + 1, B.1, ks ++ [B.2], ls.drop K, A2, c' - K, rfl, by rw [hdl.out], by go_num, by omega, Lib.hid (by omega), hH4, ha1, Lib.hid (hL2.out w4 hB4.out), s3, hdm.out, Lib.hid (hBr.out.trans hB4.out), hK4, hs4, hFr', hx2, hb2, Lib.hid (by rw [f3]; have := hkl.out; omega)⟩
        · have hF4 : F = (H2, ks, ls) := by
            rw [hFr.out, show d = 4 by omega]
            rfl
          have hd4 : decide ((d : Int) < 4) = false := decide_eq_false (by omega)
          have hadd := Lib.hid (add_ok base hb H2 [] ks (.slice none 0 0) X wr ok (fun k hk => hfrh.out k (by have := hsr.out; omega)) (hHr.out.mono (fun k hk _ => hk.1)) (Kd.R_nil _ _ _ _ _) (Kd.R_lower (Kd.R_mono (Kd.R_bound hX.out) (fun k hk => hfrh.out k hk.2.1)) hsz.out) (by have := hbr.out; omega))
          replace hF4 := Lib.hid hF4
          go_wp2_with fail
          refine (hadd.out).mono ?_
          rintro e w3 ⟨rfl, hH3, hB3, hK3⟩
          have hH3' := Lib.hid hH3
          have hB3' := Lib.hid (hBr.out.trans hB3)
          have hK3' := Lib.hid (hKr.out.trans hK3)
          clear hH3 hB3 hK3
          obtain rfl := hF4.out
          go_wp2
          go_ret
          exact ⟨rfl, hH3'.out, hB3'.out, hK3'.out⟩
end Go.Proofs.YtbfedeedicnedaaGreat
end
