/-
  ShapeSearches answers true for every input: the row.
-/
import Derived.Test.YtbfedeedicnedaaGreatSe47
import Derived.Test.YtbfedeedicnedaaGreatRows
import Derived.ProofKit
import Derived.OpenShut
import Derived.ChangeOld
import Derived.SizedLaws
import Derived.SliceStrings
import Derived.Carry
import Derived.Lib.SmallJoins
set_option linter.unusedVariables false
set_option linter.unusedSimpArgs false
section
namespace Go.Proofs.YtbfedeedicnedaaGreat
open Go.ChangeShapes Go.WideShapes Go.ChangeAt Go.RowKit
open Go.Proofs.YtbfedeedicnedaaGreatW.PrintWords
theorem ownK : ownKnob Tryz.prog.godebug = none := by kernel_rfl
theorem laidOut : laidOutB Tryz.prog = true := by kernel_rfl
def nodeOk (P : Program) (t : TypeId) : Bool := match P.underlying t with
  | some (.struct fs) => (match fs.toList with
    | [f0, f1] => (f0.type == 28 && ((f0.offset == 0) && (P.cellsOf f0.type == 1))) && (f1.type == 28 && ((f1.offset == 1) && (P.cellsOf f1.type == 1)))
    | _ => false)
  | _ => false
theorem nodeOk_open {P : Program} {t : TypeId} (h : nodeOk P t = true) : ∃ f0 f1 : Field, P.underlying t = some (.struct #[f0, f1]) ∧ (f0.type = 28 ∧ f0.offset = 0 ∧ P.cellsOf f0.type = 1) ∧ (f1.type = 28 ∧ f1.offset = 1 ∧ P.cellsOf f1.type = 1) := by
  unfold nodeOk at h
  split at h
  · rename_i fs hu
    split at h
    · rename_i f0 f1 hf
      simp only [Bool.and_eq_true, beq_iff_eq] at h
      obtain ⟨⟨a0, a1, a2⟩, ⟨b0, b1, b2⟩⟩ := h
      have : fs = #[f0, f1] := by
        apply Array.toList_inj.1
        exact hf
      exact ⟨f0, f1, by rw [hu, this], ⟨a0, a1, a2⟩, ⟨b0, b1, b2⟩⟩
    · cases h
  · cases h
theorem node_ok : nodeOk Tryz.prog 95 = true := by kernel_rfl
theorem node_underlying : Tryz.prog.underlying 22 = some (.slice 95) := by kernel_rfl
theorem node_cellsOf : Tryz.prog.cellsOf 95 = 2 := by kernel_rfl
theorem int_cellsOf : Tryz.prog.cellsOf 3 = 1 := by kernel_rfl
theorem addr_add (ad : Addr) (i j : Nat) : (ad.add i).add j = ad.add (i + j) := by
  unfold Addr.add
  by_cases h0 : i = 0
  · simp [h0]
  · by_cases hj0 : j = 0
    · simp [h0, hj0]
    · simp [h0, hj0, Nat.add_assoc]
theorem open_nums {H : Type} {enc : TypeId × Value → H} {w : World} {base : Nat} {spare : Nat → Bool} {held : Bool} {n : Nat} {cs : List Value} {y : DataW H × List MemPlace}
    (h : DataW.trod enc Tryz.prog w base spare held n 28 cs = some y) : ∃ (A : Option Addr) (len cap : Nat) (l : List Int), cs = [.slice A len cap] ∧ l.length = len ∧ len ≤ cap ∧ Kd.C kI w A len l := by
  rcases DataW.trod_slice Tryz.underlying28 h with ⟨hcs, _⟩ | ⟨ad, len', cap', elems, rest, n, _, hcs, _, hb, hl, hm, hlen, hel, _, _⟩
  · exact ⟨none, 0, 0, [], hcs, rfl, Nat.le_refl _, rfl, Nat.zero_le _, fun h => absurd h (by omega)⟩
  · have each : ∀ i, i < len' → ∃ x : Int, w.cell? (ad.add i) = some (.int .i64 x) := by
      intro i hi
      have h1 := hel i hi
      rw [List.getElem?_eq_getElem (by omega), Option.bind_eq_some_iff, int_cellsOf] at h1
      obtain ⟨cs, hcs, htr⟩ := h1
      obtain ⟨x, hx, _, _⟩ := DataW.trod_int (k := .i64) Tryz.underlying3 htr
      obtain ⟨_, _, hcell⟩ := World.cells?_some hcs
      have h2 := hcell 0 (by omega)
      rw [hx] at h2
      rw [addr_add, Nat.mul_one, Nat.add_zero] at h2
      exact ⟨x, h2⟩
    refine ⟨_, _, _, (List.range len').map fun i => if hi : i < len' then Classical.choose (each i hi) else 0, hcs, by simp, hl, by simp, ?_, fun _ => ⟨ad, rfl, fun j p hj => ?_⟩⟩
    · have : maxLen ≤ 9223372036854775807 := by decide
      omega
    · rw [List.getElem?_map] at hj
      obtain ⟨i, hi, rfl⟩ := Option.map_eq_some_iff.1 hj
      have hlt : j < len' := by
        have := (List.getElem?_eq_some_iff.1 hi).1
        simpa using this
      rw [List.getElem?_range hlt] at hi
      cases hi
      rw [dif_pos hlt]
      refine ⟨_, rfl, rfl, fun q u hq => ?_⟩
      have hq0 : q = 0 := by
        have := (List.getElem?_eq_some_iff.1 hq).1
        simp at this
        omega
      subst hq0
      cases hq
      have := Classical.choose_spec (each j hlt)
      show w.cell? (ad.add (j * 1 + 0)) = _
      rw [Nat.mul_one, Nat.add_zero]
      exact this
set_option maxRecDepth 100000 in
theorem open_node {H : Type} {enc : TypeId × Value → H} {w : World} {base : Nat} {spare : Nat → Bool} {held : Bool} {n : Nat} {cs : List Value} {y : DataW H × List MemPlace}
    (h : DataW.trod enc Tryz.prog w base spare held n 95 cs = some y) : ∃ x : SN, kSN.K w x cs ∧ cs.length = 2 := by
  obtain ⟨f0, f1, hu, ⟨a0, a1, a2⟩, ⟨b0, b1, b2⟩⟩ := nodeOk_open node_ok
  obtain ⟨xs, m, _, _, hl, hlen, hx⟩ := DataW.trod_struct hu h
  rw [node_cellsOf] at hl
  have hlen2 : xs.length = 2 := hlen
  have t0 := hx 0 f0 rfl
  have t1 := hx 1 f1 rfl
  rw [a1, a2, a0, List.getElem?_eq_getElem (by omega)] at t0
  rw [b1, b2, b0, List.getElem?_eq_getElem (by omega)] at t1
  obtain ⟨A0, n0, c0, l0, e0, h0, hc0, g0⟩ := open_nums t0
  obtain ⟨A1, n1, c1, l1, e1, h1, hc1, g1⟩ := open_nums t1
  match cs, hl with
  | [u0, u1], _ =>
    simp at e0 e1
    subst h0
    subst h1
    rw [e0, e1]
    exact ⟨⟨l0, l1⟩, PAll.k95_mk w ⟨l0, l1⟩ hc0 g0 hc1 g1, rfl⟩
theorem open_heap {H : Type} {enc : TypeId × Value → H} {w : World} {a : Option Addr} {len cap : Nat} {d : DataW H} {ps : List MemPlace}
    (h : DataW.Trod enc Tryz.prog w 0 (fun _ => true) true 22 (.slice a len cap) d ps) : ∃ K : Sh.Hp, K.length = len ∧ len ≤ cap ∧ Nodes w a K := by
  obtain ⟨fuel, hf⟩ := h
  rcases DataW.trod_slice node_underlying hf with ⟨hcs, _⟩ | ⟨ad, len', cap', elems, rest, n, _, hcs, _, hb, hl, hm, hlen, hel, _, _⟩
  · simp [Value.cells] at hcs
    obtain ⟨rfl, rfl, rfl⟩ := hcs
    exact ⟨[], rfl, Nat.le_refl _, rfl, Nat.zero_le _, fun h => absurd h (by show ¬ _; simp)⟩
  · simp [Value.cells] at hcs
    obtain ⟨rfl, rfl, rfl⟩ := hcs
    have each : ∀ i, i < len → ∃ p : SN × List Value, kSN.K w p.1 p.2 ∧ p.2.length = 2 ∧ ∀ j u, p.2[j]? = some u → w.cell? (ad.add (i * 2 + j)) = some u := by
      intro i hi
      have h1 := hel i hi
      rw [List.getElem?_eq_getElem (by omega), Option.bind_eq_some_iff, node_cellsOf] at h1
      obtain ⟨cs, hcs, htr⟩ := h1
      obtain ⟨x, hK, h2l⟩ := open_node htr
      obtain ⟨_, _, hcell⟩ := World.cells?_some hcs
      refine ⟨(x, cs), hK, h2l, fun j u hj => ?_⟩
      have hj2 : j < 2 := by
        have := (List.getElem?_eq_some_iff.1 hj).1
        simp only at this
        omega
      have h2 := hcell j hj2
      rw [hj] at h2
      rw [addr_add] at h2
      exact h2
    have hsn : ∀ xs : List SN, sn (xs.map fun x => (x.f0, x.f1)) = xs := fun xs => by
      unfold sn
      rw [List.map_map]
      exact List.map_id _
    obtain ⟨xs, hxs⟩ : ∃ xs : List SN, xs = (List.range len).map fun i => if hi : i < len then (Classical.choose (each i hi)).1 else ⟨[], []⟩ := ⟨_, rfl⟩
    have hxl : xs.length = len := by rw [hxs]; simp
    refine ⟨xs.map fun x => (x.f0, x.f1), by simp [hxl], hl, ?_⟩
    show Kd.C kSN w (some ad) (xs.map fun x => (x.f0, x.f1)).length (sn _)
    rw [hsn, List.length_map]
    refine ⟨rfl, ?_, fun _ => ⟨ad, rfl, fun j p hj => ?_⟩⟩
    · have : maxLen ≤ 9223372036854775807 := by decide
      omega
    · rw [hxs, List.getElem?_map] at hj
      obtain ⟨i, hi, rfl⟩ := Option.map_eq_some_iff.1 hj
      have hlt : j < len := by
        have := (List.getElem?_eq_some_iff.1 hi).1
        simpa using this
      rw [List.getElem?_range hlt] at hi
      cases hi
      rw [dif_pos hlt]
      have hsp := Classical.choose_spec (each j hlt)
      exact ⟨_, hsp.2.1, hsp.1, hsp.2.2⟩
set_option maxRecDepth 100000 in
theorem open_shape {H : Type} {enc : TypeId × Value → H} {w : World} {base : Nat} {v : Value} {d : DataW H} {ps : List MemPlace} (hv : Value.okWide Tryz.prog w .any base 25 v)
    (h : DataW.Trod enc Tryz.prog w 0 (fun _ => true) true 25 v d ps) : ∃ f root n : Int, v = .agg #[.int .i64 f, .int .i64 root, .int .i64 n] := by
  obtain ⟨c0, c1, c2, y0, y1, y2, m, rfl, rfl, rfl, hy0, hy1, hy2⟩ := Go.Joins.open_agg3 Tryz.underlying25 (by kernel_rfl) (by kernel_rfl) hv h
  obtain ⟨x, e0, _, _⟩ := DataW.trod_int Tryz.underlying23 hy0
  obtain ⟨y, e1, _, _⟩ := DataW.trod_int Tryz.underlying3 hy1
  obtain ⟨f, e2, _, _⟩ := DataW.trod_int Tryz.underlying3 hy2
  simp at e0 e1 e2
  subst e0 e1 e2
  exact ⟨x, y, f, rfl⟩
theorem handed_shaped {H : Type} {enc : TypeId × Value → H} {a : Assume} {C : Checked} {os : Os} {f : FuncId} {fn : Func} {s : ChangeSpec} {conds : List PathCond} {apart fresh handsOn again : Bool}
    (own : ownKnob C.prog.godebug = none) (started : os.Started) (noInit : C.prog.inits.idxOf? f = none) (hfn : C.prog.funcs[f]? = some fn)
    (witness : ∃ (w : World) (tape : Tape) (i : Input), w.os = os ∧ (w.forCall tape i).Shaped C.prog ∧ i.vars = [] ∧ Input.okWide C.prog (w.forCall tape i) .any w.heap.size f i ∧
      s.pre6 enc C.prog fn conds apart (w.forCall tape i).memory i.args ∧ a.holds C.prog (lone (Frame.enter C.prog f i.args .normal) [] (w.forCall tape i)))
    (contract : ∀ (W : World) (base : Nat) (args : Array Value) (ds gs : List (DataW H)) (before : List MemPlace),
      (∀ (j : Nat) t v, fn.params[j]? = some t → args[j]? = some v → Value.okWide C.prog W .any base t v) →
      DataW.Whole enc C.prog fn.params.toList s.vars apart W args.toList ds gs before →
      conds.all (PathCond.test C.prog ⟨fn.params.toList, ds, s.plain.varTypes C.prog, gs⟩) = true →
      W.ShapedOpen C.prog →
      Calls C.prog f args W fun e W' => ∃ v, e = .returned v ∧ s.post enc C.prog fn apart fresh handsOn again W args v W') :
    ReturnsInHanded a C os f .any (s.pre6 enc C.prog fn conds apart) (s.post enc C.prog fn apart fresh handsOn again) := by
  refine returnsInHanded_of_calls own started noInit witness ?_
  intro w tape i _ hsh _ hok hpre hholds
  obtain ⟨_, _, _, fn', hfn', _, _, _, _, hval⟩ := hok
  have e : fn' = fn := Option.some.inj (hfn'.symm.trans hfn)
  subst e
  obtain ⟨⟨ds, gs, before, hw, hc⟩, _⟩ := hpre
  have hw' := DataW.Whole.of_heap (w' := w.forCall tape i) (by rfl) hw
  refine (contract (w.forCall tape i) w.heap.size i.args ds gs before hval hw' hc hsh).mono fun e W' ⟨v, he, hp⟩ => ?_
  subst he
  exact ChangeSpec.post_blind hp
theorem trod_low {H : Type} {enc : TypeId × Value → H} {P : Program} {w : World} {t : TypeId} {v : Value} {d : DataW H} {ps : List MemPlace} (h : DataW.Trod enc P w 0 (fun _ => true) true t v d ps) : ∀ x ∈ ps, x.block < w.heap.size := by
  obtain ⟨m, hm⟩ := h
  exact DataW.trod_lt m _ _ _ hm
end Go.Proofs.YtbfedeedicnedaaGreat
end
section
namespace Go.Proofs.YtbfedeedicnedaaGreat
open Go.RowKit
set_option maxRecDepth 100000 in
theorem tab_of_shaped {w : World} (h : w.ShapedOpen Tryz.prog) : TabOk w := by
  obtain ⟨cs, hh, hs, hr⟩ := h.1 0 (Array.replicate 64 (.int .u8 0)) ((Tryz.prog.globals[0]?.map (·.type)).getD 0) (by decide +kernel) (by kernel_rfl)
  obtain ⟨ts, hts, _, hall⟩ := hr (by kernel_rfl)
  have hsz : cs.size = 64 := by rw [hs]; rfl
  intro i hi
  obtain ⟨u, hu, hok⟩ := hall i cs[i] (by simp [hsz, hi])
  have htl : ts.all (fun t => match Tryz.prog.underlying t with | some (.int .u8) => true | _ => false) = true := by
    have : (match Tryz.prog.cellTypes Tryz.prog.depth ((Tryz.prog.globals[0]?.map (·.type)).getD 0) with | some ts => ts.all (fun t => match Tryz.prog.underlying t with | some (.int .u8) => true | _ => false) | none => false) = true := by kernel_rfl
    rw [hts] at this
    exact this
  have hut : (match Tryz.prog.underlying u with | some (.int .u8) => true | _ => false) = true := List.all_eq_true.1 htl u (List.mem_of_getElem? hu)
  have huu : Tryz.prog.underlying u = some (.int .u8) := by
    revert hut
    cases hq : Tryz.prog.underlying u with
    | none => intro h; cases h
    | some q =>
      cases q with
      | int k => cases k <;> intro h <;> first | rfl | cases h
      | _ => intro h; cases h
  have hcell : w.cell? ⟨0, i, none⟩ = some cs[i] := by simp [World.cell?, hh, hsz, hi]
  rw [hcell]
  unfold Cell.ok at hok
  rw [huu] at hok
  cases hv : cs[i] with
  | int k n =>
    rw [hv] at hok
    obtain ⟨rfl, hn⟩ := hok
    have hb : 0 ≤ n ∧ n ≤ 255 := hn
    obtain ⟨m, rfl⟩ := Int.eq_ofNat_of_zero_le hb.1
    exact ⟨m, by omega, rfl⟩
  | _ => rw [hv] at hok; first | exact hok.elim | cases hok
end Go.Proofs.YtbfedeedicnedaaGreat
end
section
namespace Go.Proofs.YtbfedeedicnedaaGreat
open Go.RowKit
open Go.Proofs.YtbfedeedicnedaaGreatW.PrintWords
theorem small_of {H : Sh.Hp} (hb : Sh.largeB H = false) : Small H := by
  have hsm := Sh.largeB_small hb
  exact fun h p hp => ⟨by have := ((hsm.2 h).2 p hp).1; omega, by have := ((hsm.2 h).2 p hp).2; omega⟩
theorem wt_of {w W : World} {A : Option Addr} {H : Sh.Hp} (hC : Nodes w A H) (hT : TabOk w) (hW : Below w.heap.size w W) : WT.Nodes W A H := ⟨Kd.C_below hC hW, hT.below hW hT.pos⟩
theorem sought_ok {H : Sh.Hp} {f root n x : Int} (h : (Sh.sought H f root n x).2 = 0) : H.length ≤ 3000 ∧ Sh.el x = true ∧ ∃ l, Sh.elems H f root n = some l ∧ Sh.sought H f root n x = (l, 0) ∧ Sh.listed H f root n = (l, 0) := by
  have h3 : H.length ≤ 3000 := by
    refine Nat.le_of_not_lt fun h9 => ?_
    have e : Sh.listed H f root n = ([], 3) := by unfold Sh.listed; rw [if_pos h9]
    unfold Sh.sought at h
    rw [e, if_neg (fun h => absurd h.1 (by decide))] at h
    exact absurd h (by decide)
  have hl := Sh.listed_elems H f root n h3
  unfold Sh.sought at h ⊢
  by_cases h2 : (Sh.listed H f root n).2 = 0 ∧ Sh.el x = false
  · rw [if_pos h2] at h
    exact absurd h (by decide)
  · rw [if_neg h2] at h ⊢
    have hx : Sh.el x = true := by
      cases hx : Sh.el x
      · exact absurd ⟨h, hx⟩ h2
      · rfl
    cases he : Sh.elems H f root n with
    | none => rw [he] at hl; rw [hl] at h; exact absurd h (by decide)
    | some l => rw [he] at hl; exact ⟨h3, hx, l, rfl, hl, hl⟩
end Go.Proofs.YtbfedeedicnedaaGreat
end
section
namespace Go.Proofs.YtbfedeedicnedaaGreat
open Go.RowKit
open Go.Proofs.YtbfedeedicnedaaGreatW.PrintWords
theorem ShapeSearches_law (H : Sh.Hp) (A : Option Addr) (c : Nat) (hc : H.length ≤ c) {w : World} (hC : Nodes w A H) (f root n x : Int) (hsh : w.ShapedOpen Tryz.prog) :
    Calls Tryz.prog 4 #[.slice A H.length c, shV f root n, .int .i64 x] w fun e w' => e = .returned (.bool true) ∧ Below w.heap.size w w' := by
  by_cases hb : Sh.largeB H = true
  · exact searches_works works_calls H f root n x A c w hC hc hb
  have hb' : Sh.largeB H = false := by simpa using hb
  have hT := tab_of_shaped hsh
  have hLf := WT.listsF_all f (small_of hb')
  by_cases h0 : (Sh.sought H f root n x).2 = 0
  · obtain ⟨h3, hx, l, hel, hs, hli⟩ := sought_ok h0
    have hx' : 0 ≤ x ∧ x ≤ 1023 := by
      unfold Sh.el at hx
      simp only [Bool.and_eq_true, decide_eq_true_eq] at hx
      exact hx
    have hlist := listed_some hli
    have hn : (l.length : Int) = n := by
      unfold Sh.elems at hel
      rw [hlist] at hel
      simp only [Option.bind_some] at hel
      split at hel
      · assumption
      · cases hel
    have hsm := (Sh.largeB_small hb').2 h3
    obtain ⟨hf, hf5, b, N, hF, hE, hN⟩ := steps_both hlist hn hx'.1 hx'.2 (fun p hp => by have := (hsm.2 p hp).1; omega)
    refine searches_good works_calls H f root n x hf hf5 A c w hC hc hb' h0 hN (fun W hW => ?_) (fun W hW => ?_)
    · exact WT.Steps_of W (wt_of hC hT hW) (fun W2 hW2 => WT.search_good H f root n x b N A c W2 hW2 hLf h0 (by omega) (by omega) hF)
    · exact hE A c W (Kd.C_below hC hW)
  · exact searches_err works_calls H f root n x A c w hC hc hb' rfl h0 (fun W hW => WT.Steps_of W (wt_of hC hT hW) (fun W2 hW2 => WT.search_bad H f root n x A c W2 hW2 hLf h0))
end Go.Proofs.YtbfedeedicnedaaGreat
end
section
namespace Go.Proofs.YtbfedeedicnedaaGreat
open Go.ChangeShapes Go.WideShapes Go.ChangeAt Go.RowKit
open Go.Proofs.YtbfedeedicnedaaGreatW.PrintWords
set_option maxRecDepth 100000 in
theorem liftedShapeSearches (os : Os) (started : os.Started) (H : Type) (enc : TypeId × Value → H) :
    ReturnsInHanded {} Tryz.checked os 4 .any (Rows.shapeSearchesSpec.pre6 enc Tryz.prog Tryz.f4 Rows.shapeSearchesRow.domain false) (Rows.shapeSearchesSpec.post enc Tryz.prog Tryz.f4 false true false false) := by
  refine handed_shaped (C := Tryz.checked) ownK started (by kernel_rfl) Tryz.func4
    (ChangeSpec.witness6 (enc := enc) (C := Tryz.checked) false ⟨#[], #[.slice none 0 0, .agg #[.int .i64 0, .int .i64 0, .int .i64 0], .int .i64 0], []⟩ 8 (by kernel_rfl) (by kernel_rfl) (by kernel_rfl) (by kernel_rfl)) ?_
  intro W base args ds gs before hval0 hW hcnd hsh
  have hval : ∀ (j : Nat) t v, Tryz.f4.params[j]? = some t → args[j]? = some v → Value.okWide Tryz.prog W .any base t v := hval0
  have hW' := hW
  obtain ⟨p, q, hA0, hV, rfl, hfz, hnd⟩ := hW
  have hA : DataW.TrodAll enc Tryz.prog W 0 (fun _ => true) true Tryz.f4.params.toList args.toList ds p := hA0
  rw [Tryz.params4] at hA hval
  obtain ⟨v0, vs0, d0, ds0, p0, q0, hargs, rfl, rfl, h0, r0⟩ := trodAll_cons hA
  obtain ⟨v1, vs1, d1, ds1, p1, q1, rfl, rfl, rfl, h1, r1⟩ := trodAll_cons r0
  obtain ⟨v2, vs2, d2, ds2, p2, q2, rfl, rfl, rfl, h2, r2⟩ := trodAll_cons r1
  obtain ⟨rfl, rfl, rfl⟩ := trodAll_nil r2
  obtain rfl : args = #[v0, v1, v2] := by cases args; simp_all
  obtain ⟨rfl, rfl⟩ := trodVars_none hV
  obtain ⟨a0, len0, cap0, rfl⟩ := okWide_slice Tryz.underlying22 (hval 0 22 v0 rfl rfl)
  obtain ⟨x0, rfl, m0, c0⟩ := open_heap h0
  obtain ⟨f1, r1', n1, rfl⟩ := open_shape (hval 1 25 v1 rfl rfl) h1
  obtain ⟨x2, rfl, rfl, rfl, w2⟩ := open_int Tryz.underlying3 (hval 2 3 v2 rfl rfl) h2
  clear hA0 hval0
  refine (ShapeSearches_law x0 a0 cap0 m0 c0 f1 r1' n1 x2 hsh).mono fun e W' ⟨he, bel⟩ => ?_
  subst he
  exact ⟨_, rfl, _, _, _, [], _, [], hW', trodAll_mk1 (shut_bool Tryz.underlying4 _), (trodAll_cons_mk (Below.trod laidOut (by kernel_rfl) (of_decide_eq_true (by kernel_rfl)) h0 bel (trod_low h0)) (trodAll_cons_mk (Below.trod laidOut (by kernel_rfl) (of_decide_eq_true (by kernel_rfl)) h1 bel (trod_low h1)) (trodAll_cons_mk (shut_int Tryz.underlying3 w2) trodAll_mk0))), rfl, bel.frame _, fun h => by cases h⟩
theorem shapeSearches_holds : Rows.ShapeSearchesSaid :=
  OpenClaim.holds_of_wide 4 Tryz.f4 rfl rfl rfl rfl rfl rfl rfl ⟨rfl, rfl, rfl, rfl, rfl⟩ rfl rfl rfl rfl rfl (by kernel_rfl) Tryz.func4 (by kernel_rfl)
    (of_decide_eq_true (by kernel_rfl)) (by unfold Func.isWrapper; first | (rw [if_pos (by decide +kernel)]; kernel_rfl) | (rw [if_neg (by decide +kernel)]; exact ⟨rfl, rfl⟩))
    (fun os started H enc _ => liftedShapeSearches os started H enc)
end Go.Proofs.YtbfedeedicnedaaGreat
end
