/-
  Proves ShapeKnownSaid (theorem shapeKnown_holds): the walk through the law, function 11, and the row.
-/
import Derived.Test.YtbfedeedicnedaaGreatKn03
import Derived.Test.YtbfedeedicnedaaGreatKn04
import Derived.Test.YtbfedeedicnedaaGreatWb01
import Derived.Test.YtbfedeedicnedaaGreatWb02
import Derived.Test.YtbfedeedicnedaaGreatWb03
import Derived.Test.YtbfedeedicnedaaGreatWb04
import Derived.Test.YtbfedeedicnedaaGreatWb05
import Derived.Test.YtbfedeedicnedaaGreatWb06
import Derived.Test.YtbfedeedicnedaaGreatWb07
import Derived.Test.YtbfedeedicnedaaGreatWb08
import Derived.Test.YtbfedeedicnedaaGreatWb09
import Derived.Test.YtbfedeedicnedaaGreatWb10
import Derived.Test.YtbfedeedicnedaaGreatWb11
import Derived.Test.YtbfedeedicnedaaGreatWb12
import Derived.Test.YtbfedeedicnedaaGreatWb13
import Derived.Test.YtbfedeedicnedaaGreatWb14
import Derived.Test.YtbfedeedicnedaaGreatWb15
import Derived.Test.YtbfedeedicnedaaGreatWb16
import Derived.Test.YtbfedeedicnedaaGreatWb17
import Derived.Test.YtbfedeedicnedaaGreatWb18
import Derived.Test.YtbfedeedicnedaaGreatWb19
import Derived.Test.YtbfedeedicnedaaGreatWb20
import Derived.Test.YtbfedeedicnedaaGreatWb21
import Derived.Test.YtbfedeedicnedaaGreatWb22
import Derived.Test.YtbfedeedicnedaaGreatWb23
import Derived.Test.YtbfedeedicnedaaGreatWb24
import Derived.Test.YtbfedeedicnedaaGreatWb25
import Derived.Test.YtbfedeedicnedaaGreatWb26
import Derived.Test.YtbfedeedicnedaaGreatWb27
import Derived.Test.YtbfedeedicnedaaGreatWb28
import Derived.Test.YtbfedeedicnedaaGreatWb29
import Derived.Test.YtbfedeedicnedaaGreatWb30
import Derived.Test.YtbfedeedicnedaaGreatWb31
import Derived.Test.YtbfedeedicnedaaGreatWb32
import Derived.Test.YtbfedeedicnedaaGreatWb33
import Derived.Test.YtbfedeedicnedaaGreatWb34
import Derived.Test.YtbfedeedicnedaaGreatWb35
import Derived.Test.YtbfedeedicnedaaGreatWb36
import Derived.Test.YtbfedeedicnedaaGreatWb37
import Derived.Test.YtbfedeedicnedaaGreatWb38
import Derived.Test.YtbfedeedicnedaaGreatWb39
import Derived.Test.YtbfedeedicnedaaGreatWb40
import Derived.Test.YtbfedeedicnedaaGreatWb41
import Derived.Test.YtbfedeedicnedaaGreatWb42
import Derived.Outline
import Derived.Deep.DeepCutAuto
import Derived.Deep.Heap
import Derived.Test.YtbfedeedicnedaaGreatRows
import Derived.WalkKit
import Derived.ProofKit
import Derived.OpenShut
import Derived.ChangeOld
import Derived.Below
import Derived.SizedLaws
import Derived.SliceStrings
import Derived.Carry
import Derived.Lib.SmallJoins
import Derived.Deep.RegionHeld3
import Derived.Test.YtbfedeedicnedaaGreatProg
import Derived.KernelRfl
import Derived.WalkLawsBesides
import Derived.WalkSpells
import Derived.Deep.QuietTactic
import Derived.BigQuiet
import Derived.Lib.Hide
import Derived.Deep.LoopGhost
import Derived.Deep.Draws
import Derived.Deep.AppendLies
import Derived.Maps.AppendAt
import Derived.OwnWalk
import Derived.Laws.BytesArg
import Derived.Laws.MakeOwn
import Derived.Laws.OwnMore
import Derived.Deep.OwnRows
import Derived.Tactics
import Derived.Lib.ConvBytes
import Derived.Laws.Slices
import Derived.RowKit3
import Derived.WideLaws
import Derived.Deep.CutBlock
import Derived.Laws.Rows
import Derived.Lib.AppendStr
import Derived.ArgAppend
import Derived.Laws.IdiomCopy
import Derived.OrdersHeld
import Derived.Laws.BitsLemmas
import Derived.RowKit
import Derived.Laws.StructEq

section
set_option linter.unusedVariables false
set_option linter.unusedSimpArgs false
namespace Go.Proofs.YtbfedeedicnedaaGreat
open Go.RowKit
theorem ShapeKnown_law (w : World) (hsh : w.ShapedOpen Tryz.prog) : Calls Tryz.prog 11 #[] w fun e w' => e = .returned (.bool true) ∧ Below w.heap.size w w' := ShapeKnown_calls works_calls w
end Go.Proofs.YtbfedeedicnedaaGreat
end

section
set_option linter.unusedVariables false
set_option linter.unusedSimpArgs false
namespace Go.Proofs.YtbfedeedicnedaaGreat
open Go.ChangeShapes Go.WideShapes Go.ChangeAt Go.RowKit
open Go.Proofs.YtbfedeedicnedaaGreatW.PrintWords
theorem ownK : ownKnob Tryz.prog.godebug = none := by kernel_rfl
def nodeOk (P : Program) (t : TypeId) : Bool := match P.underlying t with
  | some (.struct fs) => (match fs.toList with
    | [f0, f1] => (f0.type == 28 && ((f0.offset == 0) && (P.cellsOf f0.type == 1))) && (f1.type == 28 && ((f1.offset == 1) && (P.cellsOf f1.type == 1)))
    | _ => false)
  | _ => false
theorem node_ok : nodeOk Tryz.prog 95 = true := by kernel_rfl
set_option maxRecDepth 100000 in
set_option maxRecDepth 100000 in
theorem handed_shaped {H : Type} {enc : TypeId × Value → H} {a : Assume} {C : Checked} {os : Os} {f : FuncId} {fn : Func} {s : ChangeSpec} {conds : List PathCond} {apart fresh handsOn again : Bool}
    (own : ownKnob C.prog.godebug = none) (started : os.Started) (noInit : C.prog.inits.idxOf? f = none) (hfn : C.prog.funcs[f]? = some fn)
    (witness : ∃ (w : World) (tape : Tape) (i : Input), w.os = os ∧ (w.forCall tape i).Shaped C.prog ∧ i.vars = [] ∧ Input.okWide C.prog (w.forCall tape i) .any w.heap.size f i ∧
      s.pre6 enc C.prog fn conds apart (w.forCall tape i).memory i.args ∧ a.holds C.prog (lone (Frame.enter C.prog f i.args .normal) [] (w.forCall tape i)))
    (contract : ∀ (W : World) (base : Nat) (args : Array Value) (ds gs : List (DataW H)) (before : List MemPlace),
      (∀ (j : Nat) t v, fn.params[j]? = some t → args[j]? = some v → Value.okWide C.prog W .any base t v) →
      DataW.Whole enc C.prog fn.params.toList s.vars apart W args.toList ds gs before →
      conds.all (PathCond.test C.prog ⟨fn.params.toList, ds, s.plain.varTypes C.prog, gs⟩) = true →
      W.ShapedOpen C.prog →
      Calls C.prog f args W fun e W' => ∃ v, e = .returned v ∧ s.post enc C.prog fn apart fresh handsOn again W args v W') :
    ReturnsInHanded a C os f .any (s.pre6 enc C.prog fn conds apart) (s.post enc C.prog fn apart fresh handsOn again) := by
  refine returnsInHanded_of_calls own started noInit witness ?_
  intro w tape i _ hsh _ hok hpre hholds
  obtain ⟨_, _, _, fn', hfn', _, _, _, _, hval⟩ := hok
  have e : fn' = fn := Option.some.inj (hfn'.symm.trans hfn)
  subst e
  obtain ⟨⟨ds, gs, before, hw, hc⟩, _⟩ := hpre
  have hw' := DataW.Whole.of_heap (w' := w.forCall tape i) (by rfl) hw
  refine (contract (w.forCall tape i) w.heap.size i.args ds gs before hval hw' hc hsh).mono fun e W' ⟨v, he, hp⟩ => ?_
  subst he
  exact ChangeSpec.post_blind hp
end Go.Proofs.YtbfedeedicnedaaGreat
end

section
set_option linter.unusedVariables false
set_option linter.unusedSimpArgs false
namespace Go.Proofs.YtbfedeedicnedaaGreat
open Go.ChangeShapes Go.WideShapes Go.ChangeAt Go.RowKit
open Go.Proofs.YtbfedeedicnedaaGreatW.PrintWords
set_option maxRecDepth 100000 in
theorem liftedShapeKnown (os : Os) (started : os.Started) (H : Type) (enc : TypeId × Value → H) :
    ReturnsInHanded {} Tryz.checked os 11 .any (Rows.shapeKnownSpec.pre6 enc Tryz.prog Tryz.f11 Rows.shapeKnownRow.domain false) (Rows.shapeKnownSpec.post enc Tryz.prog Tryz.f11 false true false false) := by
  refine handed_shaped (C := Tryz.checked) ownK started (by kernel_rfl) Tryz.func11
    (ChangeSpec.witness6 (enc := enc) (C := Tryz.checked) false ⟨#[], #[], []⟩ 8 (by kernel_rfl) (by kernel_rfl) (by kernel_rfl) (by kernel_rfl)) ?_
  intro W base args ds gs before hval0 hW hcnd hsh
  have hval : ∀ (j : Nat) t v, Tryz.f11.params[j]? = some t → args[j]? = some v → Value.okWide Tryz.prog W .any base t v := hval0
  have hW' := hW
  obtain ⟨p, q, hA0, hV, rfl, hfz, hnd⟩ := hW
  have hA : DataW.TrodAll enc Tryz.prog W 0 (fun _ => true) true Tryz.f11.params.toList args.toList ds p := hA0
  rw [Tryz.params11] at hA hval
  obtain ⟨rfl, rfl, rfl⟩ := trodAll_none hA
  obtain ⟨rfl, rfl⟩ := trodVars_none hV
  clear hA0 hval0
  refine (ShapeKnown_law  W hsh).mono fun e W' ⟨he, bel⟩ => ?_
  subst he
  exact ⟨_, rfl, _, _, _, [], _, [], hW', trodAll_mk1 (shut_bool Tryz.underlying4 _), trodAll_mk0, rfl, bel.frame _, fun h => by cases h⟩
theorem shapeKnown_holds : Rows.ShapeKnownSaid :=
  OpenClaim.holds_of_wide 11 Tryz.f11 rfl rfl rfl rfl rfl rfl rfl ⟨rfl, rfl, rfl, rfl, rfl⟩ rfl rfl rfl rfl rfl (by kernel_rfl) Tryz.func11 (by kernel_rfl)
    (of_decide_eq_true (by kernel_rfl)) (by unfold Func.isWrapper; first | (rw [if_pos (by decide +kernel)]; kernel_rfl) | (rw [if_neg (by decide +kernel)]; exact ⟨rfl, rfl⟩))
    (fun os started H enc _ => liftedShapeKnown os started H enc)
end Go.Proofs.YtbfedeedicnedaaGreat
end
