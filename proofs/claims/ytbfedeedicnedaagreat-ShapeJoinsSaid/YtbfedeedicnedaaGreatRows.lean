/-
  No cell of these rows narrows 'for every input' (looked for: loops, veiled, ifaces, maps, wideKeys, modest, calm, conditions, laid).
  DERIVED. THE GIVEN ROWS OF THIS SEAT. 11 by the template 'for every input the law returns true; each argument reads behind the call as it read before'; 0 by the template 'total and deterministic' (their statements: YtbfedeedicnedaaGreatTotals.lean).
  GIVEN WITH THE SEED: the statements are not yours to turn. If you find one false, say at which input.
  Laid BY PROGRAM, IN A SANDBOX (cutbox-rows.mjs): the forced cells as the released guide's own fill.sh prints them over the translation 9d07e48823a8d64a… (all of the seat's roots in one cut). By AI agents, Wed Nov 11 2026. No macro, syntax, notation, axiom, sorry.
-/
import Derived.Test.YtbfedeedicnedaaGreatChecked
import GoSem.Claim
import GoSem.ClaimJoined
import GoSem.ClaimMapViews
import Derived.JoinedTies
import Derived.KernelRfl
namespace Go.Proofs.YtbfedeedicnedaaGreat
/- THE CELL 'sum', in the pinned program and in every row, IS THE sha256 OF THE DUMP (.gsa) THAT YtbfedeedicnedaaGreatProg.lean LOADS. Nothing in Lean hashes anything: it is a label: what it is worth is what the hold of that sum in a sandbox is worth. -/
noncomputable def Tryz.pinned : Pinned := { name := "ytbfedeedicnedaagreat", sum := "9d07e48823a8d64ac434372f77905490c97f23a22a72bc74d88a33420bb0985f", checked := Tryz.checked }
namespace Rows
def none {H : Type} : Left H := { results := [], args := [] }

/-- 'swardlaw12.ShapeChecks': WHATEVER THE INPUT: true; the input reads as it did. -/
def shapeChecksSpec : ChangeSpec := { name := "shapeChecks", fn := fun _ => fun
  | [d1, d2, d3, d4] => { results := [.lit (.bool true)], args := [d1, d2, d3, d4] }
  | _ => none }
def shapeChecksRow : OpenClaim := { program := "ytbfedeedicnedaagreat", sum := "9d07e48823a8d64ac434372f77905490c97f23a22a72bc74d88a33420bb0985f", func := "sward/swardlaw12.ShapeChecks", spec := "shapeChecks", unfollowed := true, recurses := true, apart := false }
def ShapeChecksSaid : Prop := shapeChecksRow.holds Tryz.pinned (OpenSpec.ofChange shapeChecksSpec)

/-- ITS FALSE NEIGHBOUR: 'it returns false'. Refute it at one input. -/
def shapeChecksWrong : ChangeSpec := { name := "shapeChecks", fn := fun _ => fun
  | [d1, d2, d3, d4] => { results := [.lit (.bool false)], args := [d1, d2, d3, d4] }
  | _ => none }
def ShapeChecksWrongFalsely : Prop := shapeChecksRow.holds Tryz.pinned (OpenSpec.ofChange shapeChecksWrong)

/-- 'swardlaw12.ShapeSearches': WHATEVER THE INPUT: true; the input reads as it did. -/
def shapeSearchesSpec : ChangeSpec := { name := "shapeSearches", fn := fun _ => fun
  | [d1, d2, d3] => { results := [.lit (.bool true)], args := [d1, d2, d3] }
  | _ => none }
def shapeSearchesRow : OpenClaim := { program := "ytbfedeedicnedaagreat", sum := "9d07e48823a8d64ac434372f77905490c97f23a22a72bc74d88a33420bb0985f", func := "sward/swardlaw12.ShapeSearches", spec := "shapeSearches", unfollowed := true, recurses := true, apart := false }
def ShapeSearchesSaid : Prop := shapeSearchesRow.holds Tryz.pinned (OpenSpec.ofChange shapeSearchesSpec)

/-- ITS FALSE NEIGHBOUR: 'it returns false'. Refute it at one input. -/
def shapeSearchesWrong : ChangeSpec := { name := "shapeSearches", fn := fun _ => fun
  | [d1, d2, d3] => { results := [.lit (.bool false)], args := [d1, d2, d3] }
  | _ => none }
def ShapeSearchesWrongFalsely : Prop := shapeSearchesRow.holds Tryz.pinned (OpenSpec.ofChange shapeSearchesWrong)

/-- 'swardlaw12.ShapeMakes': WHATEVER THE INPUT: true; the input reads as it did. -/
def shapeMakesSpec : ChangeSpec := { name := "shapeMakes", fn := fun _ => fun
  | [d1, d2, d3] => { results := [.lit (.bool true)], args := [d1, d2, d3] }
  | _ => none }
def shapeMakesRow : OpenClaim := { program := "ytbfedeedicnedaagreat", sum := "9d07e48823a8d64ac434372f77905490c97f23a22a72bc74d88a33420bb0985f", func := "sward/swardlaw12.ShapeMakes", spec := "shapeMakes", unfollowed := true, recurses := true, apart := false }
def ShapeMakesSaid : Prop := shapeMakesRow.holds Tryz.pinned (OpenSpec.ofChange shapeMakesSpec)

/-- ITS FALSE NEIGHBOUR: 'it returns false'. Refute it at one input. -/
def shapeMakesWrong : ChangeSpec := { name := "shapeMakes", fn := fun _ => fun
  | [d1, d2, d3] => { results := [.lit (.bool false)], args := [d1, d2, d3] }
  | _ => none }
def ShapeMakesWrongFalsely : Prop := shapeMakesRow.holds Tryz.pinned (OpenSpec.ofChange shapeMakesWrong)

/-- 'swardlaw12.ShapeTurns': WHATEVER THE INPUT: true; the input reads as it did. -/
def shapeTurnsSpec : ChangeSpec := { name := "shapeTurns", fn := fun _ => fun
  | [d1, d2, d3] => { results := [.lit (.bool true)], args := [d1, d2, d3] }
  | _ => none }
def shapeTurnsRow : OpenClaim := { program := "ytbfedeedicnedaagreat", sum := "9d07e48823a8d64ac434372f77905490c97f23a22a72bc74d88a33420bb0985f", func := "sward/swardlaw12.ShapeTurns", spec := "shapeTurns", unfollowed := true, recurses := true, apart := false }
def ShapeTurnsSaid : Prop := shapeTurnsRow.holds Tryz.pinned (OpenSpec.ofChange shapeTurnsSpec)

/-- ITS FALSE NEIGHBOUR: 'it returns false'. Refute it at one input. -/
def shapeTurnsWrong : ChangeSpec := { name := "shapeTurns", fn := fun _ => fun
  | [d1, d2, d3] => { results := [.lit (.bool false)], args := [d1, d2, d3] }
  | _ => none }
def ShapeTurnsWrongFalsely : Prop := shapeTurnsRow.holds Tryz.pinned (OpenSpec.ofChange shapeTurnsWrong)

/-- 'swardlaw12.ShapePuts': WHATEVER THE INPUT: true; the input reads as it did. -/
def shapePutsSpec : ChangeSpec := { name := "shapePuts", fn := fun _ => fun
  | [d1, d2, d3] => { results := [.lit (.bool true)], args := [d1, d2, d3] }
  | _ => none }
def shapePutsRow : OpenClaim := { program := "ytbfedeedicnedaagreat", sum := "9d07e48823a8d64ac434372f77905490c97f23a22a72bc74d88a33420bb0985f", func := "sward/swardlaw12.ShapePuts", spec := "shapePuts", unfollowed := true, recurses := true, apart := false }
def ShapePutsSaid : Prop := shapePutsRow.holds Tryz.pinned (OpenSpec.ofChange shapePutsSpec)

/-- ITS FALSE NEIGHBOUR: 'it returns false'. Refute it at one input. -/
def shapePutsWrong : ChangeSpec := { name := "shapePuts", fn := fun _ => fun
  | [d1, d2, d3] => { results := [.lit (.bool false)], args := [d1, d2, d3] }
  | _ => none }
def ShapePutsWrongFalsely : Prop := shapePutsRow.holds Tryz.pinned (OpenSpec.ofChange shapePutsWrong)

/-- 'swardlaw12.ShapeMerges': WHATEVER THE INPUT: true; the input reads as it did. -/
def shapeMergesSpec : ChangeSpec := { name := "shapeMerges", fn := fun _ => fun
  | [d1, d2, d3] => { results := [.lit (.bool true)], args := [d1, d2, d3] }
  | _ => none }
def shapeMergesRow : OpenClaim := { program := "ytbfedeedicnedaagreat", sum := "9d07e48823a8d64ac434372f77905490c97f23a22a72bc74d88a33420bb0985f", func := "sward/swardlaw12.ShapeMerges", spec := "shapeMerges", unfollowed := true, recurses := true, apart := false }
def ShapeMergesSaid : Prop := shapeMergesRow.holds Tryz.pinned (OpenSpec.ofChange shapeMergesSpec)

/-- ITS FALSE NEIGHBOUR: 'it returns false'. Refute it at one input. -/
def shapeMergesWrong : ChangeSpec := { name := "shapeMerges", fn := fun _ => fun
  | [d1, d2, d3] => { results := [.lit (.bool false)], args := [d1, d2, d3] }
  | _ => none }
def ShapeMergesWrongFalsely : Prop := shapeMergesRow.holds Tryz.pinned (OpenSpec.ofChange shapeMergesWrong)

/-- 'swardlaw12.ShapeSplits': WHATEVER THE INPUT: true; the input reads as it did. -/
def shapeSplitsSpec : ChangeSpec := { name := "shapeSplits", fn := fun _ => fun
  | [d1, d2, d3] => { results := [.lit (.bool true)], args := [d1, d2, d3] }
  | _ => none }
def shapeSplitsRow : OpenClaim := { program := "ytbfedeedicnedaagreat", sum := "9d07e48823a8d64ac434372f77905490c97f23a22a72bc74d88a33420bb0985f", func := "sward/swardlaw12.ShapeSplits", spec := "shapeSplits", unfollowed := true, recurses := true, apart := false }
def ShapeSplitsSaid : Prop := shapeSplitsRow.holds Tryz.pinned (OpenSpec.ofChange shapeSplitsSpec)

/-- ITS FALSE NEIGHBOUR: 'it returns false'. Refute it at one input. -/
def shapeSplitsWrong : ChangeSpec := { name := "shapeSplits", fn := fun _ => fun
  | [d1, d2, d3] => { results := [.lit (.bool false)], args := [d1, d2, d3] }
  | _ => none }
def ShapeSplitsWrongFalsely : Prop := shapeSplitsRow.holds Tryz.pinned (OpenSpec.ofChange shapeSplitsWrong)

/-- 'swardlaw12.ShapeJoins': WHATEVER THE INPUT: true; the input reads as it did. -/
def shapeJoinsSpec : ChangeSpec := { name := "shapeJoins", fn := fun _ => fun
  | [d1, d2, d3, d4] => { results := [.lit (.bool true)], args := [d1, d2, d3, d4] }
  | _ => none }
def shapeJoinsRow : OpenClaim := { program := "ytbfedeedicnedaagreat", sum := "9d07e48823a8d64ac434372f77905490c97f23a22a72bc74d88a33420bb0985f", func := "sward/swardlaw12.ShapeJoins", spec := "shapeJoins", unfollowed := true, recurses := true, apart := false }
def ShapeJoinsSaid : Prop := shapeJoinsRow.holds Tryz.pinned (OpenSpec.ofChange shapeJoinsSpec)

/-- ITS FALSE NEIGHBOUR: 'it returns false'. Refute it at one input. -/
def shapeJoinsWrong : ChangeSpec := { name := "shapeJoins", fn := fun _ => fun
  | [d1, d2, d3, d4] => { results := [.lit (.bool false)], args := [d1, d2, d3, d4] }
  | _ => none }
def ShapeJoinsWrongFalsely : Prop := shapeJoinsRow.holds Tryz.pinned (OpenSpec.ofChange shapeJoinsWrong)

/-- 'swardlaw12.ShapeKnown': WHATEVER THE INPUT: true; the input reads as it did. -/
def shapeKnownSpec : ChangeSpec := { name := "shapeKnown", fn := fun _ => fun
  | [] => { results := [.lit (.bool true)], args := [] }
  | _ => none }
def shapeKnownRow : OpenClaim := { program := "ytbfedeedicnedaagreat", sum := "9d07e48823a8d64ac434372f77905490c97f23a22a72bc74d88a33420bb0985f", func := "sward/swardlaw12.ShapeKnown", spec := "shapeKnown", unfollowed := true, recurses := true, apart := false }
def ShapeKnownSaid : Prop := shapeKnownRow.holds Tryz.pinned (OpenSpec.ofChange shapeKnownSpec)

/-- ITS FALSE NEIGHBOUR: 'it returns false'. Refute it at one input. -/
def shapeKnownWrong : ChangeSpec := { name := "shapeKnown", fn := fun _ => fun
  | [] => { results := [.lit (.bool false)], args := [] }
  | _ => none }
def ShapeKnownWrongFalsely : Prop := shapeKnownRow.holds Tryz.pinned (OpenSpec.ofChange shapeKnownWrong)

/-- 'swardlaw12.ShapeSame': WHATEVER THE INPUT: true; the input reads as it did. -/
def shapeSameSpec : ChangeSpec := { name := "shapeSame", fn := fun _ => fun
  | [d1, d2, d3, d4] => { results := [.lit (.bool true)], args := [d1, d2, d3, d4] }
  | _ => none }
def shapeSameRow : OpenClaim := { program := "ytbfedeedicnedaagreat", sum := "9d07e48823a8d64ac434372f77905490c97f23a22a72bc74d88a33420bb0985f", func := "sward/swardlaw12.ShapeSame", spec := "shapeSame", unfollowed := true, recurses := true, apart := false }
def ShapeSameSaid : Prop := shapeSameRow.holds Tryz.pinned (OpenSpec.ofChange shapeSameSpec)

/-- ITS FALSE NEIGHBOUR: 'it returns false'. Refute it at one input. -/
def shapeSameWrong : ChangeSpec := { name := "shapeSame", fn := fun _ => fun
  | [d1, d2, d3, d4] => { results := [.lit (.bool false)], args := [d1, d2, d3, d4] }
  | _ => none }
def ShapeSameWrongFalsely : Prop := shapeSameRow.holds Tryz.pinned (OpenSpec.ofChange shapeSameWrong)

/-- 'swardlaw12.ShapeVersions': WHATEVER THE INPUT: true; the input reads as it did. -/
def shapeVersionsSpec : ChangeSpec := { name := "shapeVersions", fn := fun _ => fun
  | [d] => { results := [.lit (.bool true)], args := [d] }
  | _ => none }
def shapeVersionsRow : OpenClaim := { program := "ytbfedeedicnedaagreat", sum := "9d07e48823a8d64ac434372f77905490c97f23a22a72bc74d88a33420bb0985f", func := "sward/swardlaw12.ShapeVersions", spec := "shapeVersions", unfollowed := true, recurses := true, apart := false }
def ShapeVersionsSaid : Prop := shapeVersionsRow.holds Tryz.pinned (OpenSpec.ofChange shapeVersionsSpec)

/-- ITS FALSE NEIGHBOUR: 'it returns false'. Refute it at one input. -/
def shapeVersionsWrong : ChangeSpec := { name := "shapeVersions", fn := fun _ => fun
  | [d] => { results := [.lit (.bool false)], args := [d] }
  | _ => none }
def ShapeVersionsWrongFalsely : Prop := shapeVersionsRow.holds Tryz.pinned (OpenSpec.ofChange shapeVersionsWrong)

/- THE SECOND FORM. 'bulk': how many values and letters a reading holds, each counted each time it is reached (what is shared counts as often as it is met; a slice's spare places count too). A statement '..UptoSaid' is the law's where the arguments, and the package variables that the reading takes, are together of bulk at most 1048576: NARROWER than '..Said'. Prove '..Said' where nothing that the law and all that it calls make is longer than what came in: it says more and counts as full. Else prove '..UptoSaid'. A law counts once. -/
mutual
def uptoBulk {H : Type} : DataW H → Nat
  | .lit (.string bytes) => bytes.length + 1
  | .lit _ => 1
  | .nil => 1
  | .ptr d => uptoBulk d + 1
  | .slice elems spare => uptoBulkAll elems + uptoBulkAll spare + 1
  | .agg parts => uptoBulkAll parts + 1
  | .iface _ d => uptoBulk d + 1
  | .map entries => uptoBulkEntries entries + 1
  | .held _ => 1
def uptoBulkAll {H : Type} : List (DataW H) → Nat
  | [] => 0
  | d :: r => uptoBulk d + uptoBulkAll r
def uptoBulkEntries {H : Type} : List (Lit × DataW H) → Nat
  | [] => 0
  | x :: r => uptoBulkEntry x + uptoBulkEntries r
def uptoBulkEntry {H : Type} : Lit × DataW H → Nat
  | (.string bytes, d) => bytes.length + uptoBulk d + 1
  | (_, d) => uptoBulk d + 1
 end
def uptoSmall : (H : Type) → List (DataW H) → Bool := fun _ ds => decide (uptoBulkAll ds ≤ 1048576)
def OpenSpec.upto (s : _root_.Go.ChangeSpec) : _root_.Go.OpenSpec := { _root_.Go.OpenSpec.ofChange s with cond := some uptoSmall }

/-- 'swardlaw12.ShapeChecks', WHERE WHAT IT READS IS OF BULK AT MOST 1048576: true; the input reads as it did. -/
def shapeChecksUptoRow : OpenClaim := { program := "ytbfedeedicnedaagreat", sum := "9d07e48823a8d64ac434372f77905490c97f23a22a72bc74d88a33420bb0985f", func := "sward/swardlaw12.ShapeChecks", spec := "shapeChecks", unfollowed := true, recurses := true, apart := false, narrowed := true }
def ShapeChecksUptoSaid : Prop := shapeChecksUptoRow.holds Tryz.pinned (OpenSpec.upto shapeChecksSpec)

/-- 'swardlaw12.ShapeSearches', WHERE WHAT IT READS IS OF BULK AT MOST 1048576: true; the input reads as it did. -/
def shapeSearchesUptoRow : OpenClaim := { program := "ytbfedeedicnedaagreat", sum := "9d07e48823a8d64ac434372f77905490c97f23a22a72bc74d88a33420bb0985f", func := "sward/swardlaw12.ShapeSearches", spec := "shapeSearches", unfollowed := true, recurses := true, apart := false, narrowed := true }
def ShapeSearchesUptoSaid : Prop := shapeSearchesUptoRow.holds Tryz.pinned (OpenSpec.upto shapeSearchesSpec)

/-- 'swardlaw12.ShapeMakes', WHERE WHAT IT READS IS OF BULK AT MOST 1048576: true; the input reads as it did. -/
def shapeMakesUptoRow : OpenClaim := { program := "ytbfedeedicnedaagreat", sum := "9d07e48823a8d64ac434372f77905490c97f23a22a72bc74d88a33420bb0985f", func := "sward/swardlaw12.ShapeMakes", spec := "shapeMakes", unfollowed := true, recurses := true, apart := false, narrowed := true }
def ShapeMakesUptoSaid : Prop := shapeMakesUptoRow.holds Tryz.pinned (OpenSpec.upto shapeMakesSpec)

/-- 'swardlaw12.ShapeTurns', WHERE WHAT IT READS IS OF BULK AT MOST 1048576: true; the input reads as it did. -/
def shapeTurnsUptoRow : OpenClaim := { program := "ytbfedeedicnedaagreat", sum := "9d07e48823a8d64ac434372f77905490c97f23a22a72bc74d88a33420bb0985f", func := "sward/swardlaw12.ShapeTurns", spec := "shapeTurns", unfollowed := true, recurses := true, apart := false, narrowed := true }
def ShapeTurnsUptoSaid : Prop := shapeTurnsUptoRow.holds Tryz.pinned (OpenSpec.upto shapeTurnsSpec)

/-- 'swardlaw12.ShapePuts', WHERE WHAT IT READS IS OF BULK AT MOST 1048576: true; the input reads as it did. -/
def shapePutsUptoRow : OpenClaim := { program := "ytbfedeedicnedaagreat", sum := "9d07e48823a8d64ac434372f77905490c97f23a22a72bc74d88a33420bb0985f", func := "sward/swardlaw12.ShapePuts", spec := "shapePuts", unfollowed := true, recurses := true, apart := false, narrowed := true }
def ShapePutsUptoSaid : Prop := shapePutsUptoRow.holds Tryz.pinned (OpenSpec.upto shapePutsSpec)

/-- 'swardlaw12.ShapeMerges', WHERE WHAT IT READS IS OF BULK AT MOST 1048576: true; the input reads as it did. -/
def shapeMergesUptoRow : OpenClaim := { program := "ytbfedeedicnedaagreat", sum := "9d07e48823a8d64ac434372f77905490c97f23a22a72bc74d88a33420bb0985f", func := "sward/swardlaw12.ShapeMerges", spec := "shapeMerges", unfollowed := true, recurses := true, apart := false, narrowed := true }
def ShapeMergesUptoSaid : Prop := shapeMergesUptoRow.holds Tryz.pinned (OpenSpec.upto shapeMergesSpec)

/-- 'swardlaw12.ShapeSplits', WHERE WHAT IT READS IS OF BULK AT MOST 1048576: true; the input reads as it did. -/
def shapeSplitsUptoRow : OpenClaim := { program := "ytbfedeedicnedaagreat", sum := "9d07e48823a8d64ac434372f77905490c97f23a22a72bc74d88a33420bb0985f", func := "sward/swardlaw12.ShapeSplits", spec := "shapeSplits", unfollowed := true, recurses := true, apart := false, narrowed := true }
def ShapeSplitsUptoSaid : Prop := shapeSplitsUptoRow.holds Tryz.pinned (OpenSpec.upto shapeSplitsSpec)

/-- 'swardlaw12.ShapeJoins', WHERE WHAT IT READS IS OF BULK AT MOST 1048576: true; the input reads as it did. -/
def shapeJoinsUptoRow : OpenClaim := { program := "ytbfedeedicnedaagreat", sum := "9d07e48823a8d64ac434372f77905490c97f23a22a72bc74d88a33420bb0985f", func := "sward/swardlaw12.ShapeJoins", spec := "shapeJoins", unfollowed := true, recurses := true, apart := false, narrowed := true }
def ShapeJoinsUptoSaid : Prop := shapeJoinsUptoRow.holds Tryz.pinned (OpenSpec.upto shapeJoinsSpec)

/-- 'swardlaw12.ShapeKnown', WHERE WHAT IT READS IS OF BULK AT MOST 1048576: true; the input reads as it did. -/
def shapeKnownUptoRow : OpenClaim := { program := "ytbfedeedicnedaagreat", sum := "9d07e48823a8d64ac434372f77905490c97f23a22a72bc74d88a33420bb0985f", func := "sward/swardlaw12.ShapeKnown", spec := "shapeKnown", unfollowed := true, recurses := true, apart := false, narrowed := true }
def ShapeKnownUptoSaid : Prop := shapeKnownUptoRow.holds Tryz.pinned (OpenSpec.upto shapeKnownSpec)

/-- 'swardlaw12.ShapeSame', WHERE WHAT IT READS IS OF BULK AT MOST 1048576: true; the input reads as it did. -/
def shapeSameUptoRow : OpenClaim := { program := "ytbfedeedicnedaagreat", sum := "9d07e48823a8d64ac434372f77905490c97f23a22a72bc74d88a33420bb0985f", func := "sward/swardlaw12.ShapeSame", spec := "shapeSame", unfollowed := true, recurses := true, apart := false, narrowed := true }
def ShapeSameUptoSaid : Prop := shapeSameUptoRow.holds Tryz.pinned (OpenSpec.upto shapeSameSpec)

/-- 'swardlaw12.ShapeVersions', WHERE WHAT IT READS IS OF BULK AT MOST 1048576: true; the input reads as it did. -/
def shapeVersionsUptoRow : OpenClaim := { program := "ytbfedeedicnedaagreat", sum := "9d07e48823a8d64ac434372f77905490c97f23a22a72bc74d88a33420bb0985f", func := "sward/swardlaw12.ShapeVersions", spec := "shapeVersions", unfollowed := true, recurses := true, apart := false, narrowed := true }
def ShapeVersionsUptoSaid : Prop := shapeVersionsUptoRow.holds Tryz.pinned (OpenSpec.upto shapeVersionsSpec)

end Rows
end Go.Proofs.YtbfedeedicnedaaGreat
