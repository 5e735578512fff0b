/-
  Texts of this claim: ShRow, ShTab, ShSpL, ShJn, ShJr.
-/
import Derived.Test.YtbfedeedicnedaaGreatSj47
import Derived.Test.YtbfedeedicnedaaGreatRows
import Derived.ProofKit
import Derived.OpenShut
import Derived.ChangeOld
import Derived.SizedLaws
import Derived.SliceStrings
import Derived.Carry
import Derived.Lib.SmallJoins
set_option linter.unusedVariables false
set_option linter.unusedSimpArgs false
set_option maxHeartbeats 8000000
set_option maxRecDepth 100000
section
namespace Go.Proofs.YtbfedeedicnedaaGreat
open Go.ChangeShapes Go.WideShapes Go.ChangeAt Go.RowKit
open Go.Proofs.YtbfedeedicnedaaGreatW.PrintWords
theorem ownK : ownKnob Tryz.prog.godebug = none := by kernel_rfl
theorem laidOut : laidOutB Tryz.prog = true := by kernel_rfl
def nodeOk (P : Program) (t : TypeId) : Bool := match P.underlying t with
  | some (.struct fs) => (match fs.toList with
    | [f0, f1] => (f0.type == 28 && ((f0.offset == 0) && (P.cellsOf f0.type == 1))) && (f1.type == 28 && ((f1.offset == 1) && (P.cellsOf f1.type == 1)))
    | _ => false)
  | _ => false
theorem nodeOk_open {P : Program} {t : TypeId} (h : nodeOk P t = true) : ∃ f0 f1 : Field, P.underlying t = some (.struct #[f0, f1]) ∧ (f0.type = 28 ∧ f0.offset = 0 ∧ P.cellsOf f0.type = 1) ∧ (f1.type = 28 ∧ f1.offset = 1 ∧ P.cellsOf f1.type = 1) := by
  unfold nodeOk at h
  split at h
  · rename_i fs hu
    split at h
    · rename_i f0 f1 hf
      simp only [Bool.and_eq_true, beq_iff_eq] at h
      obtain ⟨⟨a0, a1, a2⟩, ⟨b0, b1, b2⟩⟩ := h
      have : fs = #[f0, f1] := by
        apply Array.toList_inj.1
        exact hf
      exact ⟨f0, f1, by rw [hu, this], ⟨a0, a1, a2⟩, ⟨b0, b1, b2⟩⟩
    · cases h
  · cases h
theorem node_ok : nodeOk Tryz.prog 95 = true := by kernel_rfl
theorem node_underlying : Tryz.prog.underlying 22 = some (.slice 95) := by kernel_rfl
theorem node_cellsOf : Tryz.prog.cellsOf 95 = 2 := by kernel_rfl
theorem int_cellsOf : Tryz.prog.cellsOf 3 = 1 := by kernel_rfl
theorem addr_add (ad : Addr) (i j : Nat) : (ad.add i).add j = ad.add (i + j) := by
  unfold Addr.add
  by_cases h0 : i = 0
  · simp [h0]
  · by_cases hj0 : j = 0
    · simp [h0, hj0]
    · simp [h0, hj0, Nat.add_assoc]
theorem open_nums {H : Type} {enc : TypeId × Value → H} {w : World} {base : Nat} {spare : Nat → Bool} {held : Bool} {n : Nat} {cs : List Value} {y : DataW H × List MemPlace}
    (h : DataW.trod enc Tryz.prog w base spare held n 28 cs = some y) : ∃ (A : Option Addr) (len cap : Nat) (l : List Int), cs = [.slice A len cap] ∧ l.length = len ∧ len ≤ cap ∧ Kd.C kI w A len l := by
  rcases DataW.trod_slice Tryz.underlying28 h with ⟨hcs, _⟩ | ⟨ad, len', cap', elems, rest, n, _, hcs, _, hb, hl, hm, hlen, hel, _, _⟩
  · exact ⟨none, 0, 0, [], hcs, rfl, Nat.le_refl _, rfl, Nat.zero_le _, fun h => absurd h (by omega)⟩
  · have each : ∀ i, i < len' → ∃ x : Int, w.cell? (ad.add i) = some (.int .i64 x) := by
      intro i hi
      have h1 := hel i hi
      rw [List.getElem?_eq_getElem (by omega), Option.bind_eq_some_iff, int_cellsOf] at h1
      obtain ⟨cs, hcs, htr⟩ := h1
      obtain ⟨x, hx, _, _⟩ := DataW.trod_int (k := .i64) Tryz.underlying3 htr
      obtain ⟨_, _, hcell⟩ := World.cells?_some hcs
      have h2 := hcell 0 (by omega)
      rw [hx] at h2
      rw [addr_add, Nat.mul_one, Nat.add_zero] at h2
      exact ⟨x, h2⟩
    refine ⟨_, _, _, (List.range len').map fun i => if hi : i < len' then Classical.choose (each i hi) else 0, hcs, by simp, hl, by simp, ?_, fun _ => ⟨ad, rfl, fun j p hj => ?_⟩⟩
    · have : maxLen ≤ 9223372036854775807 := by decide
      omega
    · rw [List.getElem?_map] at hj
      obtain ⟨i, hi, rfl⟩ := Option.map_eq_some_iff.1 hj
      have hlt : j < len' := by
        have := (List.getElem?_eq_some_iff.1 hi).1
        simpa using this
      rw [List.getElem?_range hlt] at hi
      cases hi
      rw [dif_pos hlt]
      refine ⟨_, rfl, rfl, fun q u hq => ?_⟩
      have hq0 : q = 0 := by
        have := (List.getElem?_eq_some_iff.1 hq).1
        simp at this
        omega
      subst hq0
      cases hq
      have := Classical.choose_spec (each j hlt)
      show w.cell? (ad.add (j * 1 + 0)) = _
      rw [Nat.mul_one, Nat.add_zero]
      exact this
set_option maxRecDepth 100000 in
theorem open_node {H : Type} {enc : TypeId × Value → H} {w : World} {base : Nat} {spare : Nat → Bool} {held : Bool} {n : Nat} {cs : List Value} {y : DataW H × List MemPlace}
    (h : DataW.trod enc Tryz.prog w base spare held n 95 cs = some y) : ∃ x : SN, kSN.K w x cs ∧ cs.length = 2 := by
  obtain ⟨f0, f1, hu, ⟨a0, a1, a2⟩, ⟨b0, b1, b2⟩⟩ := nodeOk_open node_ok
  obtain ⟨xs, m, _, _, hl, hlen, hx⟩ := DataW.trod_struct hu h
  rw [node_cellsOf] at hl
  have hlen2 : xs.length = 2 := hlen
  have t0 := hx 0 f0 rfl
  have t1 := hx 1 f1 rfl
  rw [a1, a2, a0, List.getElem?_eq_getElem (by omega)] at t0
  rw [b1, b2, b0, List.getElem?_eq_getElem (by omega)] at t1
  obtain ⟨A0, n0, c0, l0, e0, h0, hc0, g0⟩ := open_nums t0
  obtain ⟨A1, n1, c1, l1, e1, h1, hc1, g1⟩ := open_nums t1
  match cs, hl with
  | [u0, u1], _ =>
    simp at e0 e1
    subst h0
    subst h1
    rw [e0, e1]
    exact ⟨⟨l0, l1⟩, PAll.k95_mk w ⟨l0, l1⟩ hc0 g0 hc1 g1, rfl⟩
theorem open_heap {H : Type} {enc : TypeId × Value → H} {w : World} {a : Option Addr} {len cap : Nat} {d : DataW H} {ps : List MemPlace}
    (h : DataW.Trod enc Tryz.prog w 0 (fun _ => true) true 22 (.slice a len cap) d ps) : ∃ K : Sh.Hp, K.length = len ∧ len ≤ cap ∧ Nodes w a K := by
  obtain ⟨fuel, hf⟩ := h
  rcases DataW.trod_slice node_underlying hf with ⟨hcs, _⟩ | ⟨ad, len', cap', elems, rest, n, _, hcs, _, hb, hl, hm, hlen, hel, _, _⟩
  · simp [Value.cells] at hcs
    obtain ⟨rfl, rfl, rfl⟩ := hcs
    exact ⟨[], rfl, Nat.le_refl _, rfl, Nat.zero_le _, fun h => absurd h (by show ¬ _; simp)⟩
  · simp [Value.cells] at hcs
    obtain ⟨rfl, rfl, rfl⟩ := hcs
    have each : ∀ i, i < len → ∃ p : SN × List Value, kSN.K w p.1 p.2 ∧ p.2.length = 2 ∧ ∀ j u, p.2[j]? = some u → w.cell? (ad.add (i * 2 + j)) = some u := by
      intro i hi
      have h1 := hel i hi
      rw [List.getElem?_eq_getElem (by omega), Option.bind_eq_some_iff, node_cellsOf] at h1
      obtain ⟨cs, hcs, htr⟩ := h1
      obtain ⟨x, hK, h2l⟩ := open_node htr
      obtain ⟨_, _, hcell⟩ := World.cells?_some hcs
      refine ⟨(x, cs), hK, h2l, fun j u hj => ?_⟩
      have hj2 : j < 2 := by
        have := (List.getElem?_eq_some_iff.1 hj).1
        simp only at this
        omega
      have h2 := hcell j hj2
      rw [hj] at h2
      rw [addr_add] at h2
      exact h2
    have hsn : ∀ xs : List SN, sn (xs.map fun x => (x.f0, x.f1)) = xs := fun xs => by
      unfold sn
      rw [List.map_map]
      exact List.map_id _
    obtain ⟨xs, hxs⟩ : ∃ xs : List SN, xs = (List.range len).map fun i => if hi : i < len then (Classical.choose (each i hi)).1 else ⟨[], []⟩ := ⟨_, rfl⟩
    have hxl : xs.length = len := by rw [hxs]; simp
    refine ⟨xs.map fun x => (x.f0, x.f1), by simp [hxl], hl, ?_⟩
    show Kd.C kSN w (some ad) (xs.map fun x => (x.f0, x.f1)).length (sn _)
    rw [hsn, List.length_map]
    refine ⟨rfl, ?_, fun _ => ⟨ad, rfl, fun j p hj => ?_⟩⟩
    · have : maxLen ≤ 9223372036854775807 := by decide
      omega
    · rw [hxs, List.getElem?_map] at hj
      obtain ⟨i, hi, rfl⟩ := Option.map_eq_some_iff.1 hj
      have hlt : j < len := by
        have := (List.getElem?_eq_some_iff.1 hi).1
        simpa using this
      rw [List.getElem?_range hlt] at hi
      cases hi
      rw [dif_pos hlt]
      have hsp := Classical.choose_spec (each j hlt)
      exact ⟨_, hsp.2.1, hsp.1, hsp.2.2⟩
set_option maxRecDepth 100000 in
theorem open_shape {H : Type} {enc : TypeId × Value → H} {w : World} {base : Nat} {v : Value} {d : DataW H} {ps : List MemPlace} (hv : Value.okWide Tryz.prog w .any base 25 v)
    (h : DataW.Trod enc Tryz.prog w 0 (fun _ => true) true 25 v d ps) : ∃ f root n : Int, v = .agg #[.int .i64 f, .int .i64 root, .int .i64 n] := by
  obtain ⟨c0, c1, c2, y0, y1, y2, m, rfl, rfl, rfl, hy0, hy1, hy2⟩ := Go.Joins.open_agg3 Tryz.underlying25 (by kernel_rfl) (by kernel_rfl) hv h
  obtain ⟨x, e0, _, _⟩ := DataW.trod_int Tryz.underlying23 hy0
  obtain ⟨y, e1, _, _⟩ := DataW.trod_int Tryz.underlying3 hy1
  obtain ⟨f, e2, _, _⟩ := DataW.trod_int Tryz.underlying3 hy2
  simp at e0 e1 e2
  subst e0 e1 e2
  exact ⟨x, y, f, rfl⟩
theorem handed_shaped {H : Type} {enc : TypeId × Value → H} {a : Assume} {C : Checked} {os : Os} {f : FuncId} {fn : Func} {s : ChangeSpec} {conds : List PathCond} {apart fresh handsOn again : Bool}
    (own : ownKnob C.prog.godebug = none) (started : os.Started) (noInit : C.prog.inits.idxOf? f = none) (hfn : C.prog.funcs[f]? = some fn)
    (witness : ∃ (w : World) (tape : Tape) (i : Input), w.os = os ∧ (w.forCall tape i).Shaped C.prog ∧ i.vars = [] ∧ Input.okWide C.prog (w.forCall tape i) .any w.heap.size f i ∧
      s.pre6 enc C.prog fn conds apart (w.forCall tape i).memory i.args ∧ a.holds C.prog (lone (Frame.enter C.prog f i.args .normal) [] (w.forCall tape i)))
    (contract : ∀ (W : World) (base : Nat) (args : Array Value) (ds gs : List (DataW H)) (before : List MemPlace),
      (∀ (j : Nat) t v, fn.params[j]? = some t → args[j]? = some v → Value.okWide C.prog W .any base t v) →
      DataW.Whole enc C.prog fn.params.toList s.vars apart W args.toList ds gs before →
      conds.all (PathCond.test C.prog ⟨fn.params.toList, ds, s.plain.varTypes C.prog, gs⟩) = true →
      W.ShapedOpen C.prog →
      Calls C.prog f args W fun e W' => ∃ v, e = .returned v ∧ s.post enc C.prog fn apart fresh handsOn again W args v W') :
    ReturnsInHanded a C os f .any (s.pre6 enc C.prog fn conds apart) (s.post enc C.prog fn apart fresh handsOn again) := by
  refine returnsInHanded_of_calls own started noInit witness ?_
  intro w tape i _ hsh _ hok hpre hholds
  obtain ⟨_, _, _, fn', hfn', _, _, _, _, hval⟩ := hok
  have e : fn' = fn := Option.some.inj (hfn'.symm.trans hfn)
  subst e
  obtain ⟨⟨ds, gs, before, hw, hc⟩, _⟩ := hpre
  have hw' := DataW.Whole.of_heap (w' := w.forCall tape i) (by rfl) hw
  refine (contract (w.forCall tape i) w.heap.size i.args ds gs before hval hw' hc hsh).mono fun e W' ⟨v, he, hp⟩ => ?_
  subst he
  exact ChangeSpec.post_blind hp
theorem trod_low {H : Type} {enc : TypeId × Value → H} {P : Program} {w : World} {t : TypeId} {v : Value} {d : DataW H} {ps : List MemPlace} (h : DataW.Trod enc P w 0 (fun _ => true) true t v d ps) : ∀ x ∈ ps, x.block < w.heap.size := by
  obtain ⟨m, hm⟩ := h
  exact DataW.trod_lt m _ _ _ hm
end Go.Proofs.YtbfedeedicnedaaGreat
end
section
namespace Go.Proofs.YtbfedeedicnedaaGreat
open Go.RowKit
theorem tab_of_shaped {w : World} (h : w.ShapedOpen Tryz.prog) : TabOk w := by
  obtain ⟨cs, hh, hs, hr⟩ := h.1 0 (Array.replicate 64 (.int .u8 0)) ((Tryz.prog.globals[0]?.map (·.type)).getD 0) (by decide +kernel) (by kernel_rfl)
  obtain ⟨ts, hts, _, hall⟩ := hr (by kernel_rfl)
  have hsz : cs.size = 64 := by rw [hs]; rfl
  intro i hi
  obtain ⟨u, hu, hok⟩ := hall i cs[i] (by simp [hsz, hi])
  have htl : ts.all (fun t => match Tryz.prog.underlying t with | some (.int .u8) => true | _ => false) = true := by
    have : (match Tryz.prog.cellTypes Tryz.prog.depth ((Tryz.prog.globals[0]?.map (·.type)).getD 0) with | some ts => ts.all (fun t => match Tryz.prog.underlying t with | some (.int .u8) => true | _ => false) | none => false) = true := by kernel_rfl
    rw [hts] at this
    exact this
  have hut : (match Tryz.prog.underlying u with | some (.int .u8) => true | _ => false) = true := List.all_eq_true.1 htl u (List.mem_of_getElem? hu)
  have huu : Tryz.prog.underlying u = some (.int .u8) := by
    revert hut
    cases hq : Tryz.prog.underlying u with
    | none => intro h; cases h
    | some q =>
      cases q with
      | int k => cases k <;> intro h <;> first | rfl | cases h
      | _ => intro h; cases h
  have hcell : w.cell? ⟨0, i, none⟩ = some cs[i] := by simp [World.cell?, hh, hsz, hi]
  rw [hcell]
  unfold Cell.ok at hok
  rw [huu] at hok
  cases hv : cs[i] with
  | int k n =>
    rw [hv] at hok
    obtain ⟨rfl, hn⟩ := hok
    have hb : 0 ≤ n ∧ n ≤ 255 := hn
    obtain ⟨m, rfl⟩ := Int.eq_ofNat_of_zero_le hb.1
    exact ⟨m, by omega, rfl⟩
  | _ => rw [hv] at hok; first | exact hok.elim | cases hok
end Go.Proofs.YtbfedeedicnedaaGreat
end
section
namespace Go.Proofs.YtbfedeedicnedaaGreat
open Go.RowKit
open Go.Proofs.YtbfedeedicnedaaGreatW.PrintWords
theorem small_of {H : Sh.Hp} (hb : Sh.largeB H = false) : Small H := by
  have hsm := Sh.largeB_small hb
  exact fun h p hp => ⟨by have := ((hsm.2 h).2 p hp).1; omega, by have := ((hsm.2 h).2 p hp).2; omega⟩
theorem wt_of {w W : World} {A : Option Addr} {H : Sh.Hp} (hC : Nodes w A H) (hT : TabOk w) (hW : Below w.heap.size w W) : WT.Nodes W A H := ⟨Kd.C_below hC hW, hT.below hW hT.pos⟩
theorem sought_ok {H : Sh.Hp} {f root n x : Int} (h : (Sh.sought H f root n x).2 = 0) : H.length ≤ 3000 ∧ Sh.el x = true ∧ ∃ l, Sh.elems H f root n = some l ∧ Sh.sought H f root n x = (l, 0) ∧ Sh.listed H f root n = (l, 0) := by
  have h3 : H.length ≤ 3000 := by
    refine Nat.le_of_not_lt fun h9 => ?_
    have e : Sh.listed H f root n = ([], 3) := by unfold Sh.listed; rw [if_pos h9]
    unfold Sh.sought at h
    rw [e, if_neg (fun h => absurd h.1 (by decide))] at h
    exact absurd h (by decide)
  have hl := Sh.listed_elems H f root n h3
  unfold Sh.sought at h ⊢
  by_cases h2 : (Sh.listed H f root n).2 = 0 ∧ Sh.el x = false
  · rw [if_pos h2] at h
    exact absurd h (by decide)
  · rw [if_neg h2] at h ⊢
    have hx : Sh.el x = true := by
      cases hx : Sh.el x
      · exact absurd ⟨h, hx⟩ h2
      · rfl
    cases he : Sh.elems H f root n with
    | none => rw [he] at hl; rw [hl] at h; exact absurd h (by decide)
    | some l => rw [he] at hl; exact ⟨h3, hx, l, rfl, hl, hl⟩
end Go.Proofs.YtbfedeedicnedaaGreat
end
section
namespace Go.Proofs.YtbfedeedicnedaaGreat
open Go.RowKit
open Go.Proofs.YtbfedeedicnedaaGreatW.PrintWords
theorem joins_works (hwk : Works) (H : Sh.Hp) (fa ra na x fb rb nb : Int) (A : Option Addr) (c : Nat) (w : World) (hC : Nodes w A H) (hc : H.length ≤ c) (hb : Sh.largeB H = true) :
    Calls Tryz.prog 10 #[.slice A H.length c, shV fa ra na, .int .i64 x, shV fb rb nb] w fun e w' => e = .returned (.bool true) ∧ Below w.heap.size w w' := by
  have hwh := Lib.hid hwk
  have hB0 := Lib.hid (two_shapes w fa ra na fb rb nb).1
  have hlg := Lib.hid (large_calls H A c _ (Kd.C_below hC hB0.out) hc hb)
  clear hC hb hwk
  go_enter Tryz.func10, Tryz.ntmps10
  go_wp2_with fail
  refine (hlg.out).mono ?_
  rintro e w1 ⟨rfl, hd⟩
  have hB := Lib.hid (below_step hB0.out hd.below)
  clear hd
  go_wp2_with fail
  refine (hwh.out _).mono ?_
  rintro e w2 ⟨rfl, hb⟩
  have hB2 := Lib.hid (below_step hB.out hb)
  clear hb
  go_wp2
  go_ret
  exact ⟨rfl, hB2.out⟩
theorem joins_err (hwk : Works) (H : Sh.Hp) (fa ra na x fb rb nb : Int) (A : Option Addr) (c : Nat) (w : World) (hC : Nodes w A H) (hc : H.length ≤ c) (hb : Sh.largeB H = false)
    {e0 : Int} (he0 : e0 ≠ 0)
    (hjo : ∀ W, Below w.heap.size w W → Calls Tryz.prog 47 #[.slice A H.length c, shV fa ra na, .int .i64 x, shV fb rb nb] W fun e w' => Out3 W.heap.size w' e [] 0 0 0 e0 ∧ Below W.heap.size W w')
    (hjd : ∀ W, Below w.heap.size w W → Calls Tryz.prog 48 #[.slice A H.length c, shV fa ra na, .int .i64 x, shV fb rb nb] W fun e w' => e = .returned (.int .i64 e0) ∧ Below W.heap.size W w') :
    Calls Tryz.prog 10 #[.slice A H.length c, shV fa ra na, .int .i64 x, shV fb rb nb] w fun e w' => e = .returned (.bool true) ∧ Below w.heap.size w w' := by
  have hwh := Lib.hid hwk
  obtain ⟨W0, hW0⟩ : ∃ W0, W0 = (w.alloc (.cells #[.int .i64 fa, .int .i64 ra, .int .i64 na] 25)).alloc (.cells #[.int .i64 fb, .int .i64 rb, .int .i64 nb] 25) := ⟨_, rfl⟩
  obtain ⟨hB, h1, h2⟩ := two_shapes w fa ra na fb rb nb
  have hB0 := Lib.hid hB
  have hX1 := Lib.hid h1
  have hX2 := Lib.hid h2
  clear hB h1 h2
  rw [← hW0] at hB0 hX1 hX2
  have hBw := Lib.hid (fun W (hW : Below W0.heap.size W0 W) => (below_step hB0.out hW : Below w.heap.size w W))
  have hlg := Lib.hid (large_calls H A c W0 (Kd.C_below hC hB0.out) hc hb)
  have hsh := Lib.hid (fun W (hW : Below W0.heap.size W0 W) => hjo W (hBw.out W hW))
  have hrc := Lib.hid (fun W (hW : Below W0.heap.size W0 W) => hjd W (hBw.out W hW))
  have heb : (e0 != e0) = false := by simp
  have he1 : (e0 != 0) = true := bne_iff_ne.mpr he0
  clear hC hb hwk he0 hjo hjd
  go_enter Tryz.func10, Tryz.ntmps10
  go_wp2_with fail
  rw [← hW0]
  clear hW0
  refine (hlg.out).mono ?_
  rintro e w1 ⟨rfl, hd⟩
  have hB1 := Lib.hid hd.below
  obtain ⟨c0, c1, c2⟩ := shape_cells hX1.out hB1.out
  obtain ⟨d0, d1, d2⟩ := shape_cells hX2.out hB1.out
  clear hd
  go_wp2_with fail
  refine (hsh.out _ hB1.out).mono ?_
  rintro e w2 ⟨⟨v, rfl, hR⟩, hb⟩
  obtain ⟨A7, c7, hv⟩ := Kd.R_slice hR
  have hv' : v = .slice A7 0 c7 := hv
  subst hv'
  have hB2 := Lib.hid (below_step hB1.out hb)
  have hB3 := Lib.hid (show Below W0.heap.size W0 (w2.alloc (.cells #[.int .i64 0, .int .i64 0, .int .i64 0] 25)) from hB2.out.alloc hB2.out.size _)
  have p1 := Lib.hid (heap_alloc_new w2 (.cells #[.int .i64 0, .int .i64 0, .int .i64 0] 25))
  obtain ⟨q0, q1, q2⟩ := shape_cells hX1.out hB3.out
  obtain ⟨r0, r1, r2⟩ := shape_cells hX2.out hB3.out
  clear hb hR hv c0 c1 c2 d0 d1 d2
  have hr3 := Lib.hid (hrc.out _ hB3.out)
  go_wp2_with fail
  refine (hr3.out).mono ?_
  rintro e w3 ⟨rfl, hb⟩
  obtain ⟨a0, a1, a2⟩ := shape_cells p1.out hb
  have hB4 := Lib.hid (below_step hB3.out hb)
  have hng := Lib.hid (fun W => nothing_calls A7 c7 W)
  clear hb q0 q1 q2 r0 r1 r2
  go_wp2_with fail
  refine (hng.out _).mono ?_
  rintro e w4 ⟨rfl, hb⟩
  have hB5 := Lib.hid (below_step hB4.out hb)
  clear hb a0 a1 a2
  go_wp2_with fail
  refine (hwh.out _).mono ?_
  rintro e w6 ⟨rfl, hb⟩
  have hB7 := Lib.hid (hBw.out _ (below_step hB5.out hb))
  clear hb
  go_wp2
  go_ret
  exact ⟨rfl, hB7.out⟩
end Go.Proofs.YtbfedeedicnedaaGreat
end
section
namespace Go.Proofs.YtbfedeedicnedaaGreat
open Go.RowKit
open Go.Proofs.YtbfedeedicnedaaGreatW.PrintWords
noncomputable def jreg : Code := (Tryz.f10.body.bind (regionOf 12)).getD .skip
theorem jreg_ok {W : World} {K : Act → World → Prop} {Q' : Exit → Act → World → Prop} {cd : Code} (hcd : jreg = cd) {a1 a3 a4 a5 a6 a7 a11 a12 a14 a16 a19 a20 a21 a22 a23 a24 a25 a26 a27 a28 a29 a30 a31 a32 a33 a34 a35 a36 a37 a38 a39 a40 a41 a42 a43 a44 a45 a46 a47 a48 a49 a50 a51 a52 a53 a54 a55 a56 a57 a58 a59 a60 a61 a62 a63 a64 a65 a66 a67 a68 a69 a70 a71 a72 a73 a74 a75 a76 a77 a78 a79 a80 a81 a82 a83 a84 a85 a86 a87 : Value} {A0 A5 A6 A7 : Option Addr} {n0 c0 c5 c6 c7 k g : Nat} {x r ta tb D : Int} {l m L : List Int}
    (hwk : Works) (hLe : l ++ [x] ++ m = L) (hl1 : l.length ≤ 1024) (hl2 : m.length ≤ 1024) (X : W.heap[g]? = some (.cells #[.int .i64 3, .int .i64 r, .int .i64 L.length] 25 (0, 0)))
    (hRa : Kd.C kI W A5 l.length l) (hRb : Kd.C kI W A6 m.length m)
    (hw1 : IntKind.i64.wrap (max ta tb - min ta tb) = D) (hw2 : IntKind.i64.wrap (D + 2) = D + 2) (hw3 : IntKind.i64.wrap (6 * (D + 2)) = 6 * (D + 2))
    (hh : ∀ A2 c2 W1, Below W.heap.size W W1 → Kd.C kI W1 A2 L.length L → L.length ≤ c2 → Calls Tryz.prog 32 #[.slice A0 n0 c0, .slice A7 k c7, shV 3 r L.length, .int .i64 3, .slice A2 L.length c2, .int .i64 (6 * (D + 2))] W1 fun e w' => e = .returned (.bool true) ∧ Below W1.heap.size W1 w')
    (hK : ∀ (v65 v66 v67 v68 v69 v70 v71 v72 v73 v74 v75 v76 v77 v78 v79 v80 v81 v82 v83 v84 v85 v86 v87 : Value) (wx : World), Below W.heap.size W wx → K ⟨(.slice A0 n0 c0 :: a1 :: .int .i64 x :: a3 :: a4 :: a5 :: a6 :: a7 :: .bool true :: .slice A7 k c7 :: .pointer (some ⟨g, 0, none⟩) :: a11 :: a12 :: .slice A5 l.length c5 :: a14 :: .slice A6 m.length c6 :: a16 :: .int .i64 ta :: .int .i64 tb :: a19 :: a20 :: a21 :: a22 :: a23 :: a24 :: a25 :: a26 :: a27 :: a28 :: a29 :: a30 :: a31 :: a32 :: a33 :: a34 :: a35 :: a36 :: a37 :: a38 :: a39 :: a40 :: a41 :: a42 :: a43 :: a44 :: a45 :: a46 :: a47 :: a48 :: a49 :: a50 :: a51 :: a52 :: a53 :: a54 :: a55 :: a56 :: a57 :: a58 :: a59 :: a60 :: a61 :: a62 :: a63 :: a64 :: v65 :: v66 :: v67 :: v68 :: v69 :: v70 :: v71 :: v72 :: v73 :: v74 :: v75 :: v76 :: v77 :: v78 :: v79 :: v80 :: v81 :: v82 :: v83 :: v84 :: v85 :: v86 :: v87 :: ([] : List Value)).toArray, []⟩ wx) :
    cd.wp Tryz.prog (Exit.then K Q') ⟨(.slice A0 n0 c0 :: a1 :: .int .i64 x :: a3 :: a4 :: a5 :: a6 :: a7 :: .bool false :: .slice A7 k c7 :: .pointer (some ⟨g, 0, none⟩) :: a11 :: a12 :: .slice A5 l.length c5 :: a14 :: .slice A6 m.length c6 :: a16 :: .int .i64 ta :: .int .i64 tb :: a19 :: a20 :: a21 :: a22 :: a23 :: a24 :: a25 :: a26 :: a27 :: a28 :: a29 :: a30 :: a31 :: a32 :: a33 :: a34 :: a35 :: a36 :: a37 :: a38 :: a39 :: a40 :: a41 :: a42 :: a43 :: a44 :: a45 :: a46 :: a47 :: a48 :: a49 :: a50 :: a51 :: a52 :: a53 :: a54 :: a55 :: a56 :: a57 :: a58 :: a59 :: a60 :: a61 :: a62 :: a63 :: a64 :: a65 :: a66 :: a67 :: a68 :: a69 :: a70 :: a71 :: a72 :: a73 :: a74 :: a75 :: a76 :: a77 :: a78 :: a79 :: a80 :: a81 :: a82 :: a83 :: a84 :: a85 :: a86 :: a87 :: ([] : List Value)).toArray, []⟩ W := by
  replace hK := Lib.hid hK
  subst hcd
  replace hwk := Lib.hid hwk
  replace hLe := Lib.hid hLe
  replace hl1 := Lib.hid hl1
  replace hl2 := Lib.hid hl2
  replace hh := Lib.hid hh
  have hkB := Lib.hid (fun W1 (hW : Below W.heap.size W W1) => (⟨hW, shape_cells X hW⟩ : Below W.heap.size W W1 ∧ W1.cell? ⟨g, 0, none⟩ = some (.int .i64 3) ∧ W1.cell? ⟨g, 1, none⟩ = some (.int .i64 r) ∧ W1.cell? ⟨g, 2, none⟩ = some (.int .i64 L.length)))
  have hRa' := Lib.hid (fun W1 (hW : Below W.heap.size W W1) => (Kd.C_below hRa hW : Kd.C kI W1 A5 l.length l))
  have hRb' := Lib.hid (fun W1 (hW : Below W.heap.size W W1) => (Kd.C_below hRb hW : Kd.C kI W1 A6 m.length m))
  clear X hRa hRb
  have hBw := Lib.hid (show Below W.heap.size W W.drew from (Below.refl _ _).drew)
  have hBl := Lib.hid (show Below W.heap.size W (W.drew.alloc (.cells #[.int .i64 x] 3)) from ((Below.refl _ _).drew).alloc (Nat.le_refl _) _)
  have hsz4 := Lib.hid (show W.heap.size + 1 = (W.drew.alloc (.cells #[.int .i64 x] 3)).heap.size by rw [World.size_alloc]; rfl)
  conv => arg 2; whnf
  refine wp_region_noPanic ?_
  refine wp_region_held_drew (S := fun W1 => Below W.heap.size W W1 ∧ W1.cell? ⟨g, 0, none⟩ = some (.int .i64 3) ∧ W1.cell? ⟨g, 1, none⟩ = some (.int .i64 r) ∧ W1.cell? ⟨g, 2, none⟩ = some (.int .i64 L.length)) (by kernel_rfl) (hkB.out _ hBw.out) (fun hHeld => ?_)
  refine wpAnyH_take (i := 0) (oi := { dst := some 65, op := Op.move (Operand.tmp 0), type := 22, pos := "law.go:293", after := #[], guard := none }) (v := .slice A0 n0 c0) rfl (by kernel_rfl) (by kernel_rfl) (by kernel_rfl) (fun _ _ _ h => h) (Or.inl ⟨by rfl, ?hy0⟩) (by assumption) ?_
  case hy0 => (intro w hSw; (try dsimp only at hSw); go_simp)
  try simp only [Act.put, List.setIfInBounds_toArray, List.set_cons_zero, List.set_cons_succ]
  refine wpAnyH_take (i := 1) (oi := { dst := some 66, op := Op.move (Operand.tmp 9), type := 22, pos := "law.go:293", after := #[], guard := none }) (v := .slice A7 k c7) rfl (by kernel_rfl) (by kernel_rfl) (by kernel_rfl) (fun _ _ _ h => h) (Or.inl ⟨by rfl, ?hy1⟩) (by assumption) ?_
  case hy1 => (intro w hSw; (try dsimp only at hSw); go_simp)
  try simp only [Act.put, List.setIfInBounds_toArray, List.set_cons_zero, List.set_cons_succ]
  refine wpAnyH_take (i := 2) (oi := { dst := some 67, op := Op.load 25 (Operand.tmp 10), type := 25, pos := "law.go:293", after := #[], guard := none }) (v := .agg #[.int .i64 3, .int .i64 r, .int .i64 L.length]) rfl (by kernel_rfl) (by kernel_rfl) (by kernel_rfl) (fun _ _ _ h => h) (Or.inl ⟨by rfl, ?hy2⟩) (by assumption) ?_
  case hy2 => (intro w hSw; (try dsimp only at hSw); go_simp)
  try simp only [Act.put, List.setIfInBounds_toArray, List.set_cons_zero, List.set_cons_succ]
  refine wpAnyH_take (i := 3) (oi := { dst := some 68, op := Op.move (Operand.tmp 13), type := 28, pos := "law.go:293", after := #[], guard := none }) (v := .slice A5 l.length c5) rfl (by kernel_rfl) (by kernel_rfl) (by kernel_rfl) (fun _ _ _ h => h) (Or.inl ⟨by rfl, ?hy3⟩) (by assumption) ?_
  case hy3 => (intro w hSw; (try dsimp only at hSw); go_simp)
  try simp only [Act.put, List.setIfInBounds_toArray, List.set_cons_zero, List.set_cons_succ]
  refine wpAnyH_take (i := 5) (oi := { dst := some 70, op := Op.move (Operand.tmp 2), type := 3, pos := "law.go:293", after := #[], guard := none }) (v := .int .i64 x) rfl (by kernel_rfl) (by kernel_rfl) (by kernel_rfl) (fun _ _ _ h => h) (Or.inl ⟨by rfl, ?hy5⟩) (by assumption) ?_
  case hy5 => (intro w hSw; (try dsimp only at hSw); go_simp)
  try simp only [Act.put, List.setIfInBounds_toArray, List.set_cons_zero, List.set_cons_succ]
  refine wpAnyH_take (i := 8) (oi := { dst := some 73, op := Op.move (Operand.tmp 15), type := 28, pos := "law.go:293", after := #[], guard := none }) (v := .slice A6 m.length c6) rfl (by kernel_rfl) (by kernel_rfl) (by kernel_rfl) (fun _ _ _ h => h) (Or.inl ⟨by rfl, ?hy8⟩) (by assumption) ?_
  case hy8 => (intro w hSw; (try dsimp only at hSw); go_simp)
  try simp only [Act.put, List.setIfInBounds_toArray, List.set_cons_zero, List.set_cons_succ]
  refine wpAnyH_take (i := 10) (oi := { dst := some 75, op := Op.move (Operand.tmp 17), type := 3, pos := "law.go:293", after := #[], guard := none }) (v := .int .i64 ta) rfl (by kernel_rfl) (by kernel_rfl) (by kernel_rfl) (fun _ _ _ h => h) (Or.inl ⟨by rfl, ?hy10⟩) (by assumption) ?_
  case hy10 => (intro w hSw; (try dsimp only at hSw); go_simp)
  try simp only [Act.put, List.setIfInBounds_toArray, List.set_cons_zero, List.set_cons_succ]
  refine wpAnyH_take (i := 11) (oi := { dst := some 76, op := Op.move (Operand.tmp 18), type := 3, pos := "law.go:293", after := #[], guard := none }) (v := .int .i64 tb) rfl (by kernel_rfl) (by kernel_rfl) (by kernel_rfl) (fun _ _ _ h => h) (Or.inl ⟨by rfl, ?hy11⟩) (by assumption) ?_
  case hy11 => (intro w hSw; (try dsimp only at hSw); go_simp)
  try simp only [Act.put, List.setIfInBounds_toArray, List.set_cons_zero, List.set_cons_succ]
  refine wpAnyH_take (i := 12) (oi := { dst := some 77, op := Op.call { callee := Callee.builtin Builtin.max, args := #[Operand.tmp 75, Operand.tmp 76], argTypes := #[3, 3] }, type := 3, pos := "law.go:293", after := #[{ on := 10, ground := Ground.data }, { on := 11, ground := Ground.data }], guard := none }) (v := .int .i64 (max ta tb)) rfl (by kernel_rfl) (by kernel_rfl) (by kernel_rfl) (fun _ _ _ h => h) (Or.inl ⟨by rfl, ?hy12⟩) (by assumption) ?_
  case hy12 => (intro w hSw; (try dsimp only at hSw); go_simp)
  try simp only [Act.put, List.setIfInBounds_toArray, List.set_cons_zero, List.set_cons_succ]
  refine wpAnyH_take (i := 13) (oi := { dst := some 78, op := Op.move (Operand.tmp 17), type := 3, pos := "law.go:293", after := #[], guard := none }) (v := .int .i64 ta) rfl (by kernel_rfl) (by kernel_rfl) (by kernel_rfl) (fun _ _ _ h => h) (Or.inl ⟨by rfl, ?hy13⟩) (by assumption) ?_
  case hy13 => (intro w hSw; (try dsimp only at hSw); go_simp)
  try simp only [Act.put, List.setIfInBounds_toArray, List.set_cons_zero, List.set_cons_succ]
  refine wpAnyH_take (i := 14) (oi := { dst := some 79, op := Op.move (Operand.tmp 18), type := 3, pos := "law.go:293", after := #[], guard := none }) (v := .int .i64 tb) rfl (by kernel_rfl) (by kernel_rfl) (by kernel_rfl) (fun _ _ _ h => h) (Or.inl ⟨by rfl, ?hy14⟩) (by assumption) ?_
  case hy14 => (intro w hSw; (try dsimp only at hSw); go_simp)
  try simp only [Act.put, List.setIfInBounds_toArray, List.set_cons_zero, List.set_cons_succ]
  refine wpAnyH_take (i := 15) (oi := { dst := some 80, op := Op.call { callee := Callee.builtin Builtin.min, args := #[Operand.tmp 78, Operand.tmp 79], argTypes := #[3, 3] }, type := 3, pos := "law.go:293", after := #[{ on := 13, ground := Ground.data }, { on := 14, ground := Ground.data }], guard := none }) (v := .int .i64 (min ta tb)) rfl (by kernel_rfl) (by kernel_rfl) (by kernel_rfl) (fun _ _ _ h => h) (Or.inl ⟨by rfl, ?hy15⟩) (by assumption) ?_
  case hy15 => (intro w hSw; (try dsimp only at hSw); go_simp)
  try simp only [Act.put, List.setIfInBounds_toArray, List.set_cons_zero, List.set_cons_succ]
  refine wpAnyH_take (i := 16) (oi := { dst := some 81, op := Op.binOp BinOp.sub 3 (Operand.tmp 77) (Operand.tmp 80) 3, type := 3, pos := "law.go:293", after := #[{ on := 12, ground := Ground.data }, { on := 15, ground := Ground.data }], guard := none }) (v := .int .i64 D) rfl (by kernel_rfl) (by kernel_rfl) (by kernel_rfl) (fun _ _ _ h => h) (Or.inl ⟨by rfl, ?hy16⟩) (by assumption) ?_
  case hy16 => (intro w hSw; (try dsimp only at hSw); go_simp)
  try simp only [Act.put, List.setIfInBounds_toArray, List.set_cons_zero, List.set_cons_succ]
  refine wpAnyH_take (i := 17) (oi := { dst := some 82, op := Op.binOp BinOp.add 3 (Operand.tmp 81) (Operand.const (Value.int IntKind.i64 2)) 3, type := 3, pos := "law.go:293", after := #[{ on := 16, ground := Ground.data }], guard := none }) (v := .int .i64 (D + 2)) rfl (by kernel_rfl) (by kernel_rfl) (by kernel_rfl) (fun _ _ _ h => h) (Or.inl ⟨by rfl, ?hy17⟩) (by assumption) ?_
  case hy17 => (intro w hSw; (try dsimp only at hSw); go_simp)
  try simp only [Act.put, List.setIfInBounds_toArray, List.set_cons_zero, List.set_cons_succ]
  refine wpAnyH_take (i := 18) (oi := { dst := some 83, op := Op.binOp BinOp.mul 3 (Operand.const (Value.int IntKind.i64 6)) (Operand.tmp 82) 3, type := 3, pos := "law.go:293", after := #[{ on := 17, ground := Ground.data }], guard := none }) (v := .int .i64 (6 * (D + 2))) rfl (by kernel_rfl) (by kernel_rfl) (by kernel_rfl) (fun _ _ _ h => h) (Or.inl ⟨by rfl, ?hy18⟩) (by assumption) ?_
  case hy18 => (intro w hSw; (try dsimp only at hSw); go_simp)
  try simp only [Act.put, List.setIfInBounds_toArray, List.set_cons_zero, List.set_cons_succ]
  refine wpAnyH_ready (rs := [4, 6]) (by kernel_rfl) (by simp) ?_
  refine AllReadyH.cons (o := { dst := some 69, op := Op.call { callee := Callee.builtin Builtin.append, args := #[Operand.const (Value.slice none 0 0), Operand.tmp 68], argTypes := #[28, 28] }, type := 28, pos := "law.go:293", after := #[{ on := 3, ground := Ground.data }], guard := none }) rfl (fun K_ hK_ => ?o4) (AllReadyH.cons (o := { dst := some 71, op := Op.buildSlice 28 1 #[(0, Operand.tmp 70)], type := 28, pos := "law.go:293", after := #[{ on := 5, ground := Ground.data }], guard := none }) rfl (fun K_ hK_ => ?o6) AllReadyH.nil)
  case' o4 =>
    (refine app_all_step (W := W.drew) (w0 := W) W.heap.size (by rfl) _ _ (by rfl) (.slice none 0 0) [] l A5 l.length c5 rfl rfl (Kd.R_nil _ _ _ _ _) (hRa'.out _ hBw.out) hBw.out hBw.out.size (by have := hl1.out; simp only [List.length_nil]; omega) ?_; intro v5 w5' a1 a2 a3; have hI1 := Lib.hid (show Ints w5' W.heap.size v5 l from a1); have hB5 : Below W.heap.size W w5' := a2; clear a1 a2 a3)
    refine hK_.out _ _ (hkB.out _ (by assumption)) (fun hHeld => ?_)
    clear hK_ K_
    try simp only [Act.put, List.setIfInBounds_toArray, List.set_cons_zero, List.set_cons_succ]
    refine wpAnyH_ready (rs := [6]) (by kernel_rfl) (by simp) ?_
    refine AllReadyH.cons (o := { dst := some 71, op := Op.buildSlice 28 1 #[(0, Operand.tmp 70)], type := 28, pos := "law.go:293", after := #[{ on := 5, ground := Ground.data }], guard := none }) rfl (fun K_ hK_ => ?_) AllReadyH.nil
    go_simp
    refine hK_.out _ _ (hkB.out _ (below_more hB5 _)) (fun hHeld => ?_)
    clear hK_ K_
    try simp only [Act.put, List.setIfInBounds_toArray, List.set_cons_zero, List.set_cons_succ]
    refine wpAnyH_ready (rs := [7]) (by kernel_rfl) (by simp) ?_
    refine AllReadyH.cons (o := { dst := some 72, op := Op.call { callee := Callee.builtin Builtin.append, args := #[Operand.tmp 69, Operand.tmp 71], argTypes := #[28, 28] }, type := 28, pos := "law.go:293", after := #[{ on := 4, ground := Ground.data }, { on := 6, ground := Ground.data }, { on := 4, ground := Ground.chain }], guard := none }) rfl (fun K_ hK_ => ?_) AllReadyH.nil
    (refine app_all_step (W := w5'.alloc (.cells #[.int .i64 x] 3)) (w0 := W) W.heap.size (by rfl) _ _ (by rfl) v5 l [x] (some ⟨w5'.heap.size, 0, none⟩) 1 1 rfl rfl (Kd.R_alloc hI1.out _) (lit_read (Below.refl _ _)) (below_more hB5 _) (below_more hB5 _).size (by have := hl1.out; omega) ?_; intro v6 w6 a1 a2 a3; have hI2 := Lib.hid a1; have hB6 : Below W.heap.size W w6 := a2; clear a1 a2 a3)
    refine hK_.out _ _ (hkB.out _ (by assumption)) (fun hHeld => ?_)
    clear hK_ K_
    try simp only [Act.put, List.setIfInBounds_toArray, List.set_cons_zero, List.set_cons_succ]
  case' o6 =>
    go_simp
    refine hK_.out _ _ (hkB.out _ hBl.out) (fun hHeld => ?_)
    clear hK_ K_
    try simp only [Act.put, List.setIfInBounds_toArray, List.set_cons_zero, List.set_cons_succ]
    refine wpAnyH_ready (rs := [4]) (by kernel_rfl) (by simp) ?_
    refine AllReadyH.cons (o := { dst := some 69, op := Op.call { callee := Callee.builtin Builtin.append, args := #[Operand.const (Value.slice none 0 0), Operand.tmp 68], argTypes := #[28, 28] }, type := 28, pos := "law.go:293", after := #[{ on := 3, ground := Ground.data }], guard := none }) rfl (fun K_ hK_ => ?_) AllReadyH.nil
    (refine app_all_step (W := W.drew.alloc (.cells #[.int .i64 x] 3)) (w0 := W.drew.alloc (.cells #[.int .i64 x] 3)) (W.heap.size + 1) (by rfl) _ _ (by rfl) (.slice none 0 0) [] l A5 l.length c5 rfl rfl (Kd.R_nil _ _ _ _ _) (hRa'.out _ hBl.out) (Below.refl _ _) (Nat.le_of_eq hsz4.out) (by have := hl1.out; simp only [List.length_nil]; omega) ?_; intro v5 w5' a1 a2 a3; have hI1 := Lib.hid (show Ints w5' W.heap.size v5 l from Kd.R_lower a1 (Nat.le_succ _)); have hL1 := Lib.hid (lit_read (W := W.drew) a2); have hB5 : Below W.heap.size W w5' := hBl.out.trans (a2.mono (Nat.le_succ _)); clear a1 a2 a3)
    refine hK_.out _ _ (hkB.out _ (by assumption)) (fun hHeld => ?_)
    clear hK_ K_
    try simp only [Act.put, List.setIfInBounds_toArray, List.set_cons_zero, List.set_cons_succ]
    refine wpAnyH_ready (rs := [7]) (by kernel_rfl) (by simp) ?_
    refine AllReadyH.cons (o := { dst := some 72, op := Op.call { callee := Callee.builtin Builtin.append, args := #[Operand.tmp 69, Operand.tmp 71], argTypes := #[28, 28] }, type := 28, pos := "law.go:293", after := #[{ on := 4, ground := Ground.data }, { on := 6, ground := Ground.data }, { on := 4, ground := Ground.chain }], guard := none }) rfl (fun K_ hK_ => ?_) AllReadyH.nil
    (refine app_all_step (W := w5') (w0 := W) W.heap.size (by rfl) _ _ (by rfl) v5 l [x] (some ⟨W.heap.size, 0, none⟩) 1 1 rfl rfl hI1.out hL1.out hB5 hB5.size (by have := hl1.out; omega) ?_; intro v6 w6 a1 a2 a3; have hI2 := Lib.hid a1; have hB6 : Below W.heap.size W w6 := a2; clear a1 a2 a3)
    refine hK_.out _ _ (hkB.out _ (by assumption)) (fun hHeld => ?_)
    clear hK_ K_
    try simp only [Act.put, List.setIfInBounds_toArray, List.set_cons_zero, List.set_cons_succ]
  all_goals
    refine wpAnyH_ready (rs := [9]) (by kernel_rfl) (by simp) ?_
    refine AllReadyH.cons (o := { dst := some 74, op := Op.call { callee := Callee.builtin Builtin.append, args := #[Operand.tmp 72, Operand.tmp 73], argTypes := #[28, 28] }, type := 28, pos := "law.go:293", after := #[{ on := 7, ground := Ground.data }, { on := 8, ground := Ground.data }, { on := 7, ground := Ground.chain }], guard := none }) rfl (fun K_ hK_ => ?_) AllReadyH.nil
    (refine app_all_step (W := w6) (w0 := W) W.heap.size (by rfl) _ _ (by rfl) v6 (l ++ [x]) m A6 m.length c6 rfl rfl hI2.out (hRb'.out _ hB6) hB6 hB6.size (by have := hl1.out; have := hl2.out; rw [List.length_append, List.length_singleton]; omega) ?_; intro v7 w7 a1 a2 a3; rw [hLe.out] at a1; obtain ⟨A8, c8, rfl, hc8, hC8⟩ := Kd.R_reads a1; replace hc8 := Lib.hid hc8; replace hC8 := Lib.hid hC8; have hB7 : Below W.heap.size W w7 := a2; clear a1 a2 a3)
    refine hK_.out _ _ (hkB.out _ (by assumption)) (fun hHeld => ?_)
    clear hK_ K_
    try simp only [Act.put, List.setIfInBounds_toArray, List.set_cons_zero, List.set_cons_succ]
    refine wpAnyH_ready (rs := [19]) (by kernel_rfl) (by simp) ?_
    refine AllReadyH.cons (o := { dst := some 84, op := Op.call { callee := Callee.value (Operand.func 32), args := #[Operand.tmp 65, Operand.tmp 66, Operand.tmp 67, Operand.const (Value.int IntKind.i64 3), Operand.tmp 74, Operand.tmp 83], argTypes := #[22, 22, 25, 23, 28, 3] }, type := 4, pos := "law.go:293", after := #[{ on := 0, ground := Ground.data }, { on := 1, ground := Ground.data }, { on := 2, ground := Ground.data }, { on := 9, ground := Ground.data }, { on := 18, ground := Ground.data }, { on := 9, ground := Ground.chain }], guard := none }) rfl (fun K_ hK_ => ?_) AllReadyH.nil
    (go_simp; refine (hh.out _ _ _ hB7 hC8.out hc8.out).mono ?_; rintro e wF ⟨rfl, hbF⟩; have hBF : Below W.heap.size W wF := below_step hB7 hbF; clear hbF; go_wp2_with fail)
    refine hK_.out _ _ (hkB.out _ (by assumption)) (fun hHeld => ?_)
    clear hK_ K_
    try simp only [Act.put, List.setIfInBounds_toArray, List.set_cons_zero, List.set_cons_succ]
    refine wpAnyH_take (i := 20) (oi := { dst := some 85, op := Op.move (Operand.tmp 84), type := 4, pos := "law.go:293", after := #[{ on := 19, ground := Ground.data }, { on := 19, ground := Ground.chain }], guard := none }) (v := .bool true) rfl (by kernel_rfl) (by kernel_rfl) (by kernel_rfl) (fun _ _ _ h => h) (Or.inl ⟨by rfl, ?hy20⟩) (by assumption) ?_
    case hy20 => (intro w hSw; (try dsimp only at hSw); go_simp)
    try simp only [Act.put, List.setIfInBounds_toArray, List.set_cons_zero, List.set_cons_succ]
    refine wpAnyH_ready (rs := [21]) (by kernel_rfl) (by simp) ?_
    refine AllReadyH.cons (o := { dst := some 86, op := Op.call { callee := Callee.value (Operand.func 15), args := #[], argTypes := #[] }, type := 4, pos := "law.go:293", after := #[{ on := 20, ground := Ground.chain }, { on := 20, ground := Ground.guard }], guard := some (20, true) }) rfl (fun K_ hK_ => ?_) AllReadyH.nil
    (go_simp; refine (hwk.out _).mono ?_; rintro e wG ⟨rfl, hbG⟩; have hBG : Below W.heap.size W wG := below_step hBF hbG; clear hbG; go_wp2_with fail)
    refine hK_.out _ _ (hkB.out _ (by assumption)) (fun hHeld => ?_)
    clear hK_ K_
    try simp only [Act.put, List.setIfInBounds_toArray, List.set_cons_zero, List.set_cons_succ]
    refine wpAnyH_take (i := 22) (oi := { dst := some 87, op := Op.pick (Operand.tmp 85) (Operand.tmp 86) (Operand.const (Value.bool false)), type := 4, pos := "law.go:293", after := #[{ on := 20, ground := Ground.data }, { on := 21, ground := Ground.data }], guard := none }) (v := .bool true) rfl (by kernel_rfl) (by kernel_rfl) (by kernel_rfl) (fun _ _ _ h => h) (Or.inl ⟨by rfl, ?hy22⟩) (by assumption) ?_
    case hy22 => (intro w hSw; (try dsimp only at hSw); go_simp)
    try simp only [Act.put, List.setIfInBounds_toArray, List.set_cons_zero, List.set_cons_succ]
    refine wpAnyH_take (i := 23) (oi := { dst := some 8, op := Op.assign (Operand.tmp 87), type := 4, pos := "law.go:293", after := #[{ on := 22, ground := Ground.data }, { on := 21, ground := Ground.chain }, { on := 0, ground := Ground.phase }, { on := 1, ground := Ground.phase }, { on := 2, ground := Ground.phase }, { on := 3, ground := Ground.phase }, { on := 4, ground := Ground.phase }, { on := 5, ground := Ground.phase }, { on := 6, ground := Ground.phase }, { on := 7, ground := Ground.phase }, { on := 8, ground := Ground.phase }, { on := 9, ground := Ground.phase }, { on := 10, ground := Ground.phase }, { on := 11, ground := Ground.phase }, { on := 12, ground := Ground.phase }, { on := 13, ground := Ground.phase }, { on := 14, ground := Ground.phase }, { on := 15, ground := Ground.phase }, { on := 16, ground := Ground.phase }, { on := 17, ground := Ground.phase }, { on := 18, ground := Ground.phase }, { on := 19, ground := Ground.phase }, { on := 20, ground := Ground.phase }, { on := 21, ground := Ground.phase }, { on := 22, ground := Ground.phase }], guard := none }) (v := .bool true) rfl (by kernel_rfl) (by kernel_rfl) (by kernel_rfl) (fun _ _ _ h => h) (Or.inl ⟨by rfl, ?hy23⟩) (by assumption) ?_
    case hy23 => (intro w hSw; (try dsimp only at hSw); go_simp)
    try simp only [Act.put, List.setIfInBounds_toArray, List.set_cons_zero, List.set_cons_succ]
    refine wpAnyH_done (by kernel_rfl) ?_ _
    refine NoPanic.normal ?_
    go_wp2_with fail
    exact hK.out _ _ _ _ _ _ _ _ _ _ _ _ _ _ _ _ _ _ _ _ _ _ _ _ hBG
end Go.Proofs.YtbfedeedicnedaaGreat
end
