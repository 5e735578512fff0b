/-
  Contracts of package lex's tries: letters and signs; Name.
-/
import Derived.WalkKit
import Derived.KernelRfl
import Derived.WalkLawsBesides
import Derived.WalkSpells
import Derived.Deep.QuietTactic
import Derived.BigQuiet
import Derived.Lib.Hide
import Derived.Deep.LoopGhost
import Derived.MapKept
import Derived.Maps.Own
import Derived.Maps.OwnOps
import Derived.RangeFuncRecord
import Derived.RangeFuncNested
import Derived.RangeFuncBound
import Derived.RangeFuncCalls
import Derived.RangeFuncLeaves
import Derived.RangeFuncOwn
import Derived.OrdersHeld
import Derived.Test.YtkijoeihkajlcaaDoorProg
import Derived.Lib.LaidTab
import Derived.Shelf.Abstract
import Derived.Lib.Strings
import Derived.Test.YtkijoeihkajlcaaDoorShelf

set_option linter.unusedVariables false
set_option linter.unusedSimpArgs false
namespace Go.Proofs.YtkijoeihkajlcaaDoor
open Go.RowKit

/-- A string's value, by its bytes. -/
def strV (l : List UInt8) : Value := .string ⟨l.toArray⟩
theorem strV_data (s : ByteArray) : strV s.data.toList = .string s := by unfold strV; simp
theorem strV_inj {a b : List UInt8} (h : strV a = strV b) : a = b := by
  unfold strV at h
  injection h with h
  injection h with h
  simpa using congrArg Array.toList h

theorem ret_int {k : IntKind} {a b : Int} (h : a = b) : Ending.returned (.int k a) = Ending.returned (.int k b) := by rw [h]

theorem ret_two {v v' : Value} {k : IntKind} {a b : Int} (hv : v = v') (h : a = b) : Ending.returned (.tuple #[v, .int k a]) = Ending.returned (.tuple #[v', .int k b]) := by rw [hv, h]
theorem drop_cons (s : ByteArray) (i : Nat) (h : i < s.size) : s.data.toList.drop i = s[i] :: s.data.toList.drop (i + 1) := by
  have h' : i < s.data.toList.length := by simpa using h
  rw [List.drop_eq_getElem_cons h']
  rfl


theorem box_below {w wr : World} {o : Obj} (h : Below (w.heap.size + 1) (w.alloc o) wr) : Below w.heap.size w wr :=
  ((Below.refl w.heap.size w).alloc (Nat.le_refl _) o).trans (h.mono (Nat.le_succ _))
theorem box_cell {w wr : World} {o : Obj} (h : Below (w.heap.size + 1) (w.alloc o) wr) (j : Nat) : wr.cell? ⟨w.heap.size, j, none⟩ = (w.alloc o).cell? ⟨w.heap.size, j, none⟩ :=
  h.cell (p := ⟨w.heap.size, j, none⟩) (Nat.lt_succ_self _)
theorem new_below {w wr : World} {o : Obj} (h : Below (w.alloc o).heap.size (w.alloc o) wr) : Below (w.heap.size + 1) (w.alloc o) wr := by rw [World.size_alloc] at h; exact h
theorem below_then {B : Nat} {w wr w1 : World} (h : Below B w wr) (hb : Below wr.heap.size wr w1) (hB : B ≤ w.heap.size) : Below B w w1 := h.trans (hb.mono (Nat.le_trans hB h.size))
end Go.Proofs.YtkijoeihkajlcaaDoor

set_option linter.unusedVariables false
set_option linter.unusedSimpArgs false
namespace Go.Proofs.YtkijoeihkajlcaaDoor
open Go.RowKit

/-- Block b is a map with these entries, in order. -/
def MapS (w : World) (b : Nat) (m : List (List UInt8 × Value)) : Prop :=
  ∃ es clock, w.heap[b]? = some (.map es clock) ∧ es.toList.map (fun e => (e.key, e.val)) = m.map (fun p => (strV p.1, p.2))

def look (m : List (List UInt8 × Value)) (x : List UInt8) : Option Value := (m.find? (fun p => p.1 == x)).map (·.2)
def upd (x : List UInt8) (v : Value) : List (List UInt8 × Value) → List (List UInt8 × Value)
  | [] => [(x, v)]
  | p :: m => if p.1 == x then (p.1, v) :: m else p :: upd x v m

theorem look_nil (x : List UInt8) : look [] x = none := rfl
theorem look_cons (p : List UInt8 × Value) (m : List (List UInt8 × Value)) (x : List UInt8) : look (p :: m) x = if p.1 = x then some p.2 else look m x := by
  unfold look
  rw [List.find?_cons]
  by_cases h : p.1 = x
  · simp [h]
  · have : (p.1 == x) = false := by rw [beq_eq_false_iff_ne]; exact h
    simp [h, this]
theorem look_upd (x : List UInt8) (v : Value) : ∀ (m : List (List UInt8 × Value)) (y : List UInt8), look (upd x v m) y = if x = y then some v else look m y
  | [], y => by simp [upd, look_cons, look_nil]
  | p :: m, y => by
    unfold upd
    by_cases h : p.1 = x
    · rw [if_pos (by simpa using h), look_cons, look_cons, h]
      by_cases hy : x = y <;> simp [hy]
    · rw [if_neg (by simpa using h), look_cons, look_cons, look_upd x v m y]
      by_cases hy : p.1 = y
      · by_cases hx : x = y
        · exact absurd (hy.trans hx.symm) h
        · simp [hy, hx]
      · simp [hy]

theorem MapS.lt {w : World} {b : Nat} {m : List (List UInt8 × Value)} (h : MapS w b m) : b < w.heap.size := by
  obtain ⟨es, clock, hb, _⟩ := h
  exact (Array.getElem?_eq_some_iff.1 hb).1
theorem MapS.of_block {w w' : World} {b : Nat} {m : List (List UInt8 × Value)} (h : MapS w b m) (hb : w'.heap[b]? = w.heap[b]?) : MapS w' b m := by
  obtain ⟨es, clock, h1, h2⟩ := h
  exact ⟨es, clock, hb.trans h1, h2⟩
theorem MapS.below {B : Nat} {w w' : World} {b : Nat} {m : List (List UInt8 × Value)} (h : MapS w b m) (hb : Below B w w') (hlt : b < B) : MapS w' b m := h.of_block (hb.block b hlt)
theorem MapS.made (w : World) : MapS (w.alloc (.map #[] 0)) w.heap.size [] := ⟨#[], 0, World.alloc_heap_new w _, rfl⟩

theorem findNow_look : ∀ (es : List MapEntry) (m : List (List UInt8 × Value)) (x : List UInt8) (i : Nat), es.map (fun e => (e.key, e.val)) = m.map (fun p => (strV p.1, p.2)) →
    (Instr.findNow .string (strV x) es i = some none ∧ look m x = none ∧ ∀ v, upd x v m = m ++ [(x, v)]) ∨
    ∃ j, ∃ e : MapEntry, Instr.findNow .string (strV x) es i = some (some (i + j, e.val)) ∧ es[j]? = some e ∧ e.key = strV x ∧ look m x = some e.val ∧ ∀ v, upd x v m = m.modify j (fun p => (p.1, v))
  | [], m, x, i, h => by
    cases m with
    | nil => exact .inl ⟨rfl, rfl, fun v => rfl⟩
    | cons p m => simp at h
  | e :: es, [], x, i, h => by simp at h
  | e :: es, p :: m, x, i, h => by
    simp only [List.map_cons, List.cons.injEq, Prod.mk.injEq] at h
    obtain ⟨⟨hk, hv⟩, ht⟩ := h
    rw [look_cons]
    have hs : Instr.sameNow .string (strV x) e.key = some (decide (p.1 = x)) := by
      rw [hk]
      unfold strV Instr.sameNow
      simp only [Option.some.injEq]
      rw [Bool.eq_iff_iff, decide_eq_true_iff, MapKept.bytes_beq]
      constructor
      · intro h'
        injection h' with h'
        have := congrArg Array.toList h'
        simpa using this.symm
      · rintro rfl; rfl
    by_cases hx : p.1 = x
    · refine .inr ⟨0, e, ?_, rfl, by rw [hk, hx], by simp [hx, hv], fun v => ?_⟩
      · unfold Instr.findNow; rw [hs]; simp [hx]
      · unfold upd; rw [if_pos (by simpa using hx)]; simp [List.modify]
    · rcases findNow_look es m x (i + 1) ht with ⟨h1, h2, h3⟩ | ⟨j, e', h1, h2, h3, h4, h5⟩
      · refine .inl ⟨?_, by simp [hx, h2], fun v => ?_⟩
        · unfold Instr.findNow; rw [hs]; simp [hx, h1]
        · unfold upd; rw [if_neg (by simpa using hx), h3 v]; rfl
      · refine .inr ⟨j + 1, e', ?_, by simpa using h2, h3, by simp [hx, h4], fun v => ?_⟩
        · unfold Instr.findNow; rw [hs]; simp [hx, h1]; omega
        · unfold upd; rw [if_neg (by simpa using hx), h5 v]; simp [List.modify]

/-- 'm[x]' and 'v, ok := m[x]'. -/
theorem run_lookup_mapS {P : Program} {w : World} {b : Nat} {m : List (List UInt8 × Value)} (h : MapS w b m) (t k e : TypeId) (ht : P.underlying t = some (.map k e)) (hk : P.underlying k = some .string)
    (z : Value) (hz : (zeroValue e).run P w = .ok z w) (x : List UInt8) (c : Bool) :
    (Instr.lookup t (.map (some b)) (strV x) c).run P w = .ok (if c then .tuple #[(look m x).getD z, .bool (look m x).isSome] else (look m x).getD z) w := by
  obtain ⟨es, clock, hb, hes⟩ := h
  have hc : (Instr.checkKey es.isEmpty 10000 k (strV x)).run P w = .ok () w := by
    refine MapKept.run_checkKey hk ?_ _ 9999
    unfold strV; simp [MapKept.IsKey]
  rcases findNow_look es.toList m x 0 hes with ⟨h1, h2, _⟩ | ⟨j, e', h1, _, _, h2, _⟩
  · have hf := MapKept.run_findKey (P := P) (w := w) hk h1
    rw [h2]
    simp [Instr.lookup, run_underlying ht, Go.MapKept.run_getObj_map hb, hc, hf, hz, Result.andThen]
  · have hf := MapKept.run_findKey (P := P) (w := w) hk h1
    rw [h2]
    simp [Instr.lookup, run_underlying ht, Go.MapKept.run_getObj_map hb, hc, hf, Result.andThen]

theorem sameBits_strV (x : List UInt8) (n : Nat) : Instr.sameBits n (strV x) (strV x) = true := by
  unfold strV
  cases n <;> simp [Instr.sameBits, MapKept.bytes_beq]

/-- 'm[x] = v'. -/
theorem run_mapUpdate_mapS {P : Program} {w : World} {b : Nat} {m : List (List UInt8 × Value)} (h : MapS w b m) (t k e : TypeId) (ht : P.underlying t = some (.map k e)) (hk : P.underlying k = some .string)
    (x : List UInt8) (v : Value) :
    ∃ w', (Instr.mapUpdate t (.map (some b)) (strV x) v).run P w = .ok () w' ∧ MapS w' b (upd x v m) ∧ w.grownBy w' (some b) := by
  obtain ⟨es, clock, hb, hes⟩ := h
  have hc : (Instr.checkKey false 10000 k (strV x)).run P w = .ok () w := by
    refine MapKept.run_checkKey hk ?_ _ 9999
    unfold strV; simp [MapKept.IsKey]
  have hset : ∀ o : Obj, w.grownBy { w with heap := w.heap.setIfInBounds b o } (some b) := fun o =>
    ⟨rfl, rfl, rfl, by simp, fun i _ hi => (MapKept.heap_set (o' := o) hb).2 i (fun e => hi (by rw [e]))⟩
  rcases findNow_look es.toList m x 0 hes with ⟨h1, h2, h3⟩ | ⟨j, e', h1, h2, h4, _, h3⟩
  · have hf := MapKept.run_findKey (P := P) (w := w) hk h1
    refine ⟨_, ?_, ⟨es.push { key := strV x, val := v, born := clock }, clock + 1, (MapKept.heap_set (o' := .map (es.push { key := strV x, val := v, born := clock }) (clock + 1)) hb).1, ?_⟩, hset _⟩
    · simp [Instr.mapUpdate, run_underlying ht, Go.MapKept.run_getObj_map hb, hc, hf, Result.andThen, Go.MapKept.run_setObj_map _ hb]
    · rw [h3 v]; simp [hes]
  · have hf := MapKept.run_findKey (P := P) (w := w) hk h1
    rw [Nat.zero_add] at hf
    have hj : es[j]? = some e' := by simpa using h2
    have hst : (Instr.keyThatStays (strV x) (strV x)).run P w = .ok (strV x) w := by simp [Instr.keyThatStays, sameBits_strV]
    refine ⟨_, ?_, ⟨es.modify j fun e => { e with key := strV x, val := v }, clock, (MapKept.heap_set (o' := .map (es.modify j fun e => { e with key := strV x, val := v }) clock) hb).1, ?_⟩, hset _⟩
    · simp [Instr.mapUpdate, run_underlying ht, Go.MapKept.run_getObj_map hb, hc, hf, Result.andThen, hj, h4, hst, Go.MapKept.run_setObj_map _ hb]
    · rw [h3 v]
      have e1 : (es.modify j fun e => { e with key := strV x, val := v }).toList = es.toList.modify j fun e => { e with key := strV x, val := v } := by simp
      rw [e1]
      apply List.ext_getElem?
      intro i
      have hi := congrArg (fun l => l[i]?) hes
      simp only [List.getElem?_map] at hi
      simp only [List.getElem?_map, List.getElem?_modify]
      by_cases hij : j = i
      · subst hij
        simp only [if_true]
        cases h5 : es.toList[j]? with
        | none => rw [h5] at h2; cases h2
        | some e5 =>
          rw [h5] at hi
          cases h6 : m[j]? with
          | none => rw [h6] at hi; simp at hi
          | some p6 =>
            rw [h6] at hi
            simp at hi
            have : e5 = e' := by have := h2; rw [h5] at this; exact Option.some.inj this
            simp
            rw [← hi.1, this, h4]
      · simp only [hij, if_false]
        simpa using hi

/-- At the operation, for the walk: behind 'at_mapUpdate'. -/
theorem wpList_mapUpdate_mapS {P : Program} (w : World) {ops : Array Oper} {rest : List Oper} {o : Oper} {a : Act} {Q : Exit → Act → World → Prop}
    (hg : o.guard = none) (m x v : Operand) (t : TypeId) (hop : o.op = Op.mapUpdate t m x v) (k e : TypeId) (ht : P.underlying t = some (.map k e)) (hk : P.underlying k = some .string)
    (b : Nat) (M : List (List UInt8 × Value)) (hm : a.eval m = .map (some b)) (hown : MapS w b M) (key : List UInt8) (val : Value) (hx : a.eval x = strV key) (hv : a.eval v = val)
    (hK : ∀ w', MapS w' b (upd key val M) → w.grownBy w' (some b) → wpList P ops Q rest (a.put o.dst undef) w') :
    wpList P ops Q (o :: rest) a w := by
  refine wpList_plain hg fun K' hK' => ?_
  obtain ⟨w', hrun, r1, r2⟩ := run_mapUpdate_mapS (P := P) hown t k e ht hk key val
  unfold Oper.wp
  simp [execOp, hop, hm, hx, hv, hrun, Result.andThen]
  exact hK' _ _ (hK w' r1 r2)
end Go.Proofs.YtkijoeihkajlcaaDoor

set_option linter.unusedVariables false
set_option linter.unusedSimpArgs false
namespace Go.Proofs.YtkijoeihkajlcaaDoor
open Go.RowKit

/-! ### A region that draws its order, within a round: out of the plain one -/
theorem uponIn_of_upon {l n : Nat} {P : Program} {o : Oper} {a : Act} {next : Act → World → Prop} {Q : Exit → Act → World → Prop} (hQ : ∀ a w, ¬ Q .outgrown a w) {r : Result Next} (h : o.upon P a next Q r) :
    o.uponIn (Fence.wide.inRound l) n P a next Q r := by
  have hlo : ¬ LetsOut Q := fun ⟨a, w, h⟩ => hQ a w h
  cases r with
  | ok x w' =>
    cases x <;> first
    | exact h
    | exact h.elim
    | (refine ⟨fun h => by simp [Fence.wide] at h, ?_⟩
       exact (callsIn_wide (n := n - 1)).2 h)
    | (refine ⟨fun h => by simp [Fence.wide] at h, ?_⟩
       intro c cs _
       obtain ⟨v, w1, h1, h2⟩ := h c cs
       exact ⟨v, w1, h1, stepsIn_wide.2 h2⟩)
  | halt x w' => cases x <;> first | exact h | exact h.elim

theorem wpOpsIn_of_wpOps {l n : Nat} {P : Program} {ops : Array Oper} {Q : Exit → Act → World → Prop} (hQ : ∀ a w, ¬ Q .outgrown a w) (hnd : ∀ (i : Nat) (o : Oper), ops[i]? = some o → ∀ c, o.op ≠ .defer c) :
    ∀ (s : List Nat) (a : Act) (w : World), wpOps P ops Q s a w → wpOpsIn (Fence.wide.inRound l) n P ops Q s a w
  | [], a, w, h => h
  | i :: s, a, w, h => by
    simp only [wpOps, wpOpsIn] at *
    cases ho : ops[i]? with
    | none => rw [ho] at h; exact wpOpsIn_of_wpOps hQ hnd s a w h
    | some o =>
      rw [ho] at h
      simp only at h ⊢
      by_cases hw : Region.wanted o (yielded ops a.tmps) = true
      · rw [if_pos hw] at h ⊢
        rcases h with h | ⟨_, a', w', h⟩
        · refine ⟨fun _ _ => trivial, ?_⟩
          rw [show (Fence.wide.inRound l).round = some l from rfl, Oper.semAt_some l _ o (hnd i o ho)]
          refine uponIn_of_upon hQ ?_
          have h' : o.upon P a (wpOps P ops Q s) Q ((execOp a.eval o).run P w) := h
          exact Oper.wp_mono (o := o) (P := P) (Q := Q) (a := a) (w := w) (fun a w => wpOpsIn_of_wpOps hQ hnd s a w) h'
        · exact (hQ _ _ h).elim
      · rw [if_neg hw] at h ⊢
        exact ⟨fun _ _ => trivial, wpOpsIn_of_wpOps hQ hnd s _ w h⟩

/-- The region within a round, out of 'wpAny'. -/
theorem wpIn_region_round {l n id : Nat} {P : Program} {ops : Array Oper} {Q : Exit → Act → World → Prop} {a : Act} {w : World} (hm : P.follows .mixedOrders = true) (hQ : ∀ a w, ¬ Q .outgrown a w)
    (hnd : ∀ (i : Nat) (o : Oper), ops[i]? = some o → ∀ c, o.op ≠ .defer c)
    (h : wpAny P .any ops Q ops.size (Array.replicate ops.size false) a w.drew) : (Code.region id ops true).wpIn (Fence.wide.inRound l) n P Q a w :=
  wpIn_region_draw fun t => wpOpsIn_of_wpOps hQ hnd _ _ _ (by
    simp only [Region.schedule, hm, Bool.true_or, if_true]
    exact wpAny_sound ops.size t _ a _ h)

/-! ### A range over a function -/
/-- What a round keeps for the iterator: the blocks that the iterator leans on. -/
structure KeepI (Ic : Nat → Prop) (W W' : World) : Prop where
  size : W.heap.size ≤ W'.heap.size
  own : ∀ k, Ic k → W'.heap[k]? = W.heap[k]?
theorem KeepI.refl {Ic : Nat → Prop} (W : World) : KeepI Ic W W := ⟨Nat.le_refl _, fun _ _ => rfl⟩
theorem KeepI.trans {Ic : Nat → Prop} {A B C : World} (h : KeepI Ic A B) (k : KeepI Ic B C) : KeepI Ic A C := ⟨Nat.le_trans h.size k.size, fun j hj => (k.own j hj).trans (h.own j hj)⟩
theorem KeepI.putObj {Ic : Nat → Prop} (W : World) (r : Nat) (o : Obj) (h : ¬ Ic r) : KeepI Ic W (W.putObj r o) := ⟨by simp, fun k hk => World.putObj_heap_other (fun e => h (e ▸ hk))⟩
theorem KeepI.imp {Ic Ic' : Nat → Prop} {A B : World} (h : KeepI Ic A B) (hi : ∀ k, Ic' k → Ic k) : KeepI Ic' A B := ⟨h.size, fun k hk => h.own k (hi k hk)⟩

/-- The contract of an iterator's function: called in a world of B0 blocks that meets Wok, with a loop's yield. Its steps between two rounds: St. What it leans on: Ic. It ends: all have come; a round has said 'no more'; it has panicked between two rounds. -/
def Iter {α : Type} (P : Program) (gf : Nat) (lb : Array Value) (encs : α → Array Value) (Wok : World → Prop) (Ic : World → Nat → Prop) (St : World → World → World → Prop) (More : List α → α → Prop) (Full : List α → Prop) (Fell : List PanicEntry → List α → Prop) : Prop :=
  ∀ (l : Nat) (J Jx : List α → World → Prop) (W0 : World), Wok W0 → (∀ p W W', J p W → St W0 W W' → J p W') → (∀ p W W', Jx p W → St W0 W W' → Jx p W') →
    (∀ pre x W, J pre W → More pre x → W0.heap.size ≤ W.heap.size → (∀ k, Ic W0 k → k < W.heap.size) → YieldAt Fence.wide 1 P l (encs x) W fun e W' => (e = .returned (.bool true) ∧ J (pre ++ [x]) W' ∧ KeepI (Ic W0) W W') ∨ (e = .returned (.bool false) ∧ Jx (pre ++ [x]) W' ∧ KeepI (Ic W0) W W')) →
    J [] W0 →
    Calls P gf (#[.func (.yield l) #[] #[]] ++ lb) W0 fun e W' => (∃ v, e = .returned v ∧ ((∃ xs, Full xs ∧ J xs W') ∨ (∃ pre, Jx pre W'))) ∨ (∃ c xs, e = .panicked c ∧ Fell c xs ∧ J xs W')

/-- What a round's body must leave: l is the loop's record, D the block for deferred calls. -/
def bodyPost1 {α : Type} (Ic : Nat → Prop) (D : Nat) (I : List α → World → Prop) (Ix : Code → List α → World → Prop) (W : World) (p : List α) : Exit → Act → World → Prop
  | .normal, _, W' => KeepI (fun k => Ic k ∨ k = D ∨ k = D + 1) W W' ∧ I p W'
  | .ret, _, W' => KeepI (fun k => Ic k ∨ k = D ∨ k = D + 1) W W' ∧ Ix .ret p W'
  | .exit id, _, W' => KeepI (fun k => Ic k ∨ k = D ∨ k = D + 1) W W' ∧ Ix (.exit id) p W'
  | .goto t, _, W' => KeepI (fun k => Ic k ∨ k = D ∨ k = D + 1) W W' ∧ Ix (.goto t) p W'
  | .panic _, _, _ => False
  | .outgrown, _, _ => False

theorem rf_law {α : Type} {P : Program} {g : Operand} {ps : Array Tmp} {assign body : Code} {Q : Exit → Act → World → Prop} {a : Act} {w : World}
    {gf : Nat} {lb : Array Value} (hg : a.eval g = .func (.func gf) #[] lb) (eg : ∀ args w, (callFunc gf args).run P w = .ok (.enter gf args) w)
    {encs : α → Array Value} {Wok : World → Prop} {Ic : World → Nat → Prop} {St : World → World → World → Prop} {More : List α → α → Prop} {Full : List α → Prop} {Fell : List PanicEntry → List α → Prop}
    (hit : Iter P gf lb encs Wok Ic St More Full Fell) (hps : ∀ x, (encs x).size = ps.size)
    (hWok : ∀ W, Below w.heap.size w W → W.heap.size = w.heap.size + 2 → Wok W)
    (hIc : ∀ W k, W.heap.size = w.heap.size + 2 → Ic W k → k ≠ w.heap.size ∧ k ≠ w.heap.size + 1)
    (hSt : ∀ W0 W W', W0.heap.size = w.heap.size + 2 → w.heap.size + 2 ≤ W.heap.size → St W0 W W' → ∀ k, k < w.heap.size + 2 → W'.heap[k]? = W.heap[k]?)
    (I : List α → World → Prop) (Ix : Code → List α → World → Prop) (Ax : α → Act → World → Prop)
    (hIst : ∀ p W0 W W', W0.heap.size = w.heap.size + 2 → I p W → St W0 W W' → I p W') (hIxst : ∀ c p W0 W W', W0.heap.size = w.heap.size + 2 → Ix c p W → St W0 W W' → Ix c p W')
    (hIp : ∀ p W (o : Obj), I p W → I p (W.putObj (w.heap.size + 1) o)) (hIxp : ∀ c p W (o : Obj), Ix c p W → Ix c p (W.putObj (w.heap.size + 1) o)) (hAp : ∀ x a W (o : Obj), Ax x a W → Ax x a (W.putObj (w.heap.size + 1) o))
    (h0 : ∀ W, Below w.heap.size w W → W.heap.size = w.heap.size + 2 → I [] W)
    (hassign : ∀ (pre : List α) (x : α) (W : World) (K : Act → World → Prop), I pre W → More pre x → w.heap.size + 2 ≤ W.heap.size →
      (∀ a' W', Ax x a' W' → I pre W' → KeepI (fun k => k < W.heap.size) W W' → K a' W') →
      assign.wpIn (Fence.wide.inRound (w.heap.size + 1)) 1 P (Exit.then K (fun _ _ _ => False)) { tmps := (ps.zip (encs x)).foldl (fun t (p, v) => t.setIfInBounds p v) a.tmps, defers := [] } W)
    (hbody : ∀ (W0 : World) (pre : List α) (x : α) (a' : Act) (W : World), W0.heap.size = w.heap.size + 2 → w.heap.size + 2 ≤ W.heap.size → (∀ k, Ic W0 k → k < W.heap.size) → I pre W → Ax x a' W → More pre x → body.wpIn (Fence.wide.inRound (w.heap.size + 1)) 1 P (bodyPost1 (Ic W0) w.heap.size I Ix W (pre ++ [x])) a' W)
    (hdone : ∀ (xs : List α) (W : World), Full xs → I xs W → W.heap[w.heap.size]? = some (.deferred (some [])) → Q .normal { a with defers := { target := .collected w.heap.size, args := #[] } :: a.defers } W)
    (hstop : ∀ (c : Code) (pre : List α) (W : World), Ix c pre W → W.heap[w.heap.size]? = some (.deferred (some [])) → c.wpIn Fence.wide 3 P Q { a with defers := { target := .collected w.heap.size, args := #[] } :: a.defers } W)
    (hfell : ∀ (chain : List PanicEntry) (xs : List α) (W : World), Fell chain xs → I xs W → W.heap[w.heap.size]? = some (.deferred (some [])) → Q (.panic chain) { a with defers := { target := .collected w.heap.size, args := #[] } :: a.defers } W) :
    (Code.rangeFunc g ps assign body).wpIn Fence.wide 3 P Q a w := by
  refine wpIn_rangeFunc ?_
  intro fn _
  obtain ⟨rec, hrec⟩ : ∃ rec : LoopState → Option Code → Loop, rec = fun st pe => { state := st, pending := pe, fn, tmps := a.tmps, params := ps, assign, body, defers := w.heap.size } := ⟨_, rfl⟩
  obtain ⟨W1, hW1⟩ : ∃ W1, (w.alloc (.deferred (some []))).alloc (.loop (rec .ready none)) = W1 := ⟨_, rfl⟩
  have hs1 : W1.heap.size = w.heap.size + 2 := by rw [← hW1]; simp
  have hL1 : W1.heap[w.heap.size + 1]? = some (.loop (rec .ready none)) := by
    rw [← hW1]; have := World.alloc_heap_new (w.alloc (.deferred (some []))) (.loop (rec .ready none)); rwa [World.size_alloc] at this
  have hK1 : W1.heap[w.heap.size]? = some (.deferred (some [])) := by
    rw [← hW1]; exact (Below.heap_alloc _ _ _ (by simp)).trans (World.alloc_heap_new w _)
  have hb1 : Below w.heap.size w W1 := by
    rw [← hW1]; exact ((Below.refl _ w).alloc (Nat.le_refl _) _).alloc (by simp) _
  refine ⟨w.heap.size + 1, [{ target := .collected w.heap.size, args := #[] }], W1, { target := .fn (.func gf) lb, args := #[.func (.yield (w.heap.size + 1)) #[] #[]] }, W1, gf,
    #[.func (.yield (w.heap.size + 1)) #[] #[]] ++ lb, W1, ?_, ?_, fun _ _ => trivial, ?_, fun _ => by omega, ?_⟩
  · rw [← hW1, hrec]; exact run_enterLoop_outer _ _ _ _ _
  · simp only [resolve, hg]
    simp [go_sem]
  · simp [invoke, go_sem, eg]
  · refine callsIn_wide.2 ((hit (w.heap.size + 1)
      (fun p W => I p W ∧ W.heap[w.heap.size + 1]? = some (.loop (rec .ready none)) ∧ W.heap[w.heap.size]? = some (.deferred (some [])))
      (fun p W => ∃ c, Ix c p W ∧ W.heap[w.heap.size + 1]? = some (.loop (rec .done (some c))) ∧ W.heap[w.heap.size]? = some (.deferred (some [])))
      W1 (hWok _ hb1 hs1)
      (fun p A B hs hst => ⟨hIst p W1 A B hs1 hs.1 hst, (hSt _ _ _ hs1 (Array.getElem?_eq_some_iff.1 hs.2.1).1 hst _ (by omega)).trans hs.2.1, (hSt _ _ _ hs1 (Array.getElem?_eq_some_iff.1 hs.2.1).1 hst _ (by omega)).trans hs.2.2⟩)
      (fun p A B hs hst => by
        obtain ⟨c, hc, hl, hk⟩ := hs
        exact ⟨c, hIxst c p W1 A B hs1 hc hst, (hSt _ _ _ hs1 (Array.getElem?_eq_some_iff.1 hl).1 hst _ (by omega)).trans hl, (hSt _ _ _ hs1 (Array.getElem?_eq_some_iff.1 hl).1 hst _ (by omega)).trans hk⟩)
      ?_ ⟨h0 _ hb1 hs1, hL1, hK1⟩).mono ?_)
    · rintro pre x W ⟨hi, hl, hk⟩ hmore hsz hIcs
      rw [hs1] at hsz
      have hy := run_yield (P := P) (args := encs x) hl (by rw [hrec]; simp [hps])
      rw [hrec] at hy
      refine ⟨fn, _, assign, body, hy, roundIn_of_wpIn (F := Fence.wide) trivial (hassign pre x W _ hi hmore hsz ?_)⟩
      intro a' W' hax hi' hkeep
      have hl' : W'.heap[w.heap.size + 1]? = some (.loop (rec .ready none)) := (hkeep.own _ (by show w.heap.size + 1 < W.heap.size; omega)).trans hl
      have hk' : W'.heap[w.heap.size]? = some (.deferred (some [])) := (hkeep.own _ (by show w.heap.size < W.heap.size; omega)).trans hk
      have hsz' : w.heap.size + 2 ≤ W'.heap.size := Nat.le_trans hsz hkeep.size
      refine ⟨_, run_beginRound hl' (by rw [hrec]), ?_⟩
      have hlt : w.heap.size + 1 < W'.heap.size := by omega
      have hl2 : (W'.putObj (w.heap.size + 1) (.loop { rec .ready none with state := .busy })).heap[w.heap.size + 1]? = some (.loop { rec .ready none with state := .busy }) := World.putObj_heap_same hlt
      have hk2 : (W'.putObj (w.heap.size + 1) (.loop { rec .ready none with state := .busy })).heap[w.heap.size]? = some (.deferred (some [])) := (World.putObj_heap_other (by omega)).trans hk'
      refine wpIn_mono (hbody W1 pre x a' _ hs1 (by simpa using hsz') (fun k hk => by simpa using Nat.lt_of_lt_of_le (hIcs k hk) hkeep.size) (hIp _ _ _ hi') (hAp _ _ _ _ hax) hmore) ?_
      have hIn : ¬ Ic W1 (w.heap.size + 1) := fun h => (hIc W1 _ hs1 h).2 rfl
      have hIlt : ∀ k, Ic W1 k → k < W.heap.size → W'.heap[k]? = W.heap[k]? := fun k _ h => hkeep.own k h
      have fin : ∀ (jump : Option Code) (W3 : World), KeepI (fun k => Ic W1 k ∨ k = w.heap.size ∨ k = w.heap.size + 1) (W'.putObj (w.heap.size + 1) (.loop { rec .ready none with state := .busy })) W3 →
          (Instr.endRound (w.heap.size + 1) jump).run P W3 = .ok (.bool jump.isNone) (W3.putObj (w.heap.size + 1) (.loop (rec (if jump.isNone then .ready else .done) jump))) ∧
          (W3.putObj (w.heap.size + 1) (.loop (rec (if jump.isNone then .ready else .done) jump))).heap[w.heap.size + 1]? = some (.loop (rec (if jump.isNone then .ready else .done) jump)) ∧
          (W3.putObj (w.heap.size + 1) (.loop (rec (if jump.isNone then .ready else .done) jump))).heap[w.heap.size]? = some (.deferred (some [])) ∧
          KeepI (Ic W1) W' (W3.putObj (w.heap.size + 1) (.loop (rec (if jump.isNone then .ready else .done) jump))) := fun jump W3 hk3 => by
        have hl3 := (hk3.own _ (.inr (.inr rfl))).trans hl2
        have := run_endRound (P := P) jump hl3
        rw [hrec] at this ⊢
        refine ⟨this, World.putObj_heap_same (Array.getElem?_eq_some_iff.1 hl3).1, (World.putObj_heap_other (by omega)).trans ((hk3.own _ (.inr (.inl rfl))).trans hk2), ?_⟩
        exact ((KeepI.putObj W' _ _ hIn).trans (hk3.imp (fun k hk => .inl hk))).trans (KeepI.putObj W3 _ _ hIn)
      have hk1 : KeepI (Ic W1) W W' := hkeep.imp hIcs
      rintro e a3 W3 hp
      cases e with
      | normal =>
        obtain ⟨hk3, hi3⟩ := hp
        obtain ⟨hr, hl4, hk4, hkp⟩ := fin none W3 hk3
        exact ⟨_, _, hr, .inl ⟨rfl, ⟨hIp _ _ _ hi3, hl4, hk4⟩, hk1.trans hkp⟩⟩
      | ret =>
        obtain ⟨hk3, hi3⟩ := hp
        obtain ⟨hr, hl4, hk4, hkp⟩ := fin (some .ret) W3 hk3
        exact ⟨_, _, hr, .inr ⟨rfl, ⟨.ret, hIxp _ _ _ _ hi3, hl4, hk4⟩, hk1.trans hkp⟩⟩
      | exit id =>
        obtain ⟨hk3, hi3⟩ := hp
        obtain ⟨hr, hl4, hk4, hkp⟩ := fin (some (.exit id)) W3 hk3
        exact ⟨_, _, hr, .inr ⟨rfl, ⟨.exit id, hIxp _ _ _ _ hi3, hl4, hk4⟩, hk1.trans hkp⟩⟩
      | goto t =>
        obtain ⟨hk3, hi3⟩ := hp
        obtain ⟨hr, hl4, hk4, hkp⟩ := fin (some (.goto t)) W3 hk3
        exact ⟨_, _, hr, .inr ⟨rfl, ⟨.goto t, hIxp _ _ _ _ hi3, hl4, hk4⟩, hk1.trans hkp⟩⟩
      | panic ch => exact hp.elim
      | outgrown => exact hp.elim
    · rintro e W2 (⟨v, rfl, ⟨xs, hfull, hi, hl, hk⟩ | ⟨pre, c, hi, hl, hk⟩⟩ | ⟨c, xs, rfl, hfell', hi, hl, hk⟩)
      · exact ⟨none, _, by have := run_endLoop (P := P) hl (by rw [hrec]; simp); rw [hrec] at this; exact this, hdone xs _ hfull (hIp _ _ _ hi) ((World.putObj_heap_other (by omega)).trans hk)⟩
      · exact ⟨some c, _, by have := run_endLoop (P := P) hl (by rw [hrec]; simp); rw [hrec] at this; exact this, hstop c pre _ (hIxp _ _ _ _ hi) ((World.putObj_heap_other (by omega)).trans hk)⟩
      · exact hfell c xs _ hfell' hi hk
end Go.Proofs.YtkijoeihkajlcaaDoor

namespace Go.Proofs.YtkijoeihkajlcaaDoor.Lx

abbrev Bs := List UInt8
def isLet (c : UInt8) : Bool := decide (97 ≤ c.toNat) && decide (c.toNat ≤ 122)
def isDig (c : UInt8) : Bool := decide (48 ≤ c.toNat) && decide (c.toNat ≤ 57)
def isTxt (c : UInt8) : Bool := decide (32 ≤ c.toNat) && (decide (c.toNat ≤ 126) && (decide (c.toNat ≠ 34) && decide (c.toNat ≠ 92)))
def notNl (c : UInt8) : Bool := decide (c.toNat ≠ 10)
def isBlank (c : UInt8) : Bool := c.toNat == 32 || (c.toNat == 9 || c.toNat == 10)

/-- How many bytes of a kind stand at the head. -/
def runL (p : UInt8 → Bool) : Bs → Nat
  | [] => 0
  | c :: t => if p c then runL p t + 1 else 0

theorem runL_le (p : UInt8 → Bool) : ∀ l : Bs, runL p l ≤ l.length
  | [] => Nat.le_refl _
  | c :: t => by
    unfold runL
    split
    · simp [runL_le p t]
    · simp

def keyWords : List Bs := [[97, 108, 108], [97, 110, 100], [98, 111, 111, 108], [98, 121], [99, 111, 117, 110, 116], [101, 108, 115, 101], [102, 97, 108, 115, 101], [102, 105, 120], [102, 111, 114], [102, 114, 111, 109], [103, 114, 101, 97, 116], [105, 102], [105, 110], [105, 110, 116], [108, 97, 119], [108, 101, 97, 115, 116], [109, 101, 101, 116], [109, 105, 110, 117, 115], [109, 111, 100, 117, 108, 101], [110, 111, 110, 101], [110, 111, 116], [111, 112], [111, 114], [112, 105, 99, 107], [115, 111, 109, 101], [115, 117, 109], [116, 101, 120, 116], [116, 104, 101, 110], [116, 114, 117, 101], [117, 110, 105, 111, 110], [118, 97, 114], [119, 104, 105, 108, 101], [119, 105, 116, 104, 105, 110]]
def signWords : List Bs := [[58, 61], [43, 61], [45, 61], [46, 46], [40], [41], [123], [125], [44], [59], [58], [61], [60], [43], [45], [42], [46]]
def isKey (l : Bs) : Bool := keyWords.contains l
def isName (l : Bs) : Bool := decide (1 ≤ l.length) && (decide (l.length ≤ 8) && (l.all isLet && !isKey l))

/-- A piece, as it is read. -/
inductive Piece where
  | word (s : Bs)
  | num (n : Int)
  | str (s : Bs)
  | sgn (s : Bs)

/-- What a try comes to: nothing begins here; it is wrong; a piece, and how many bytes it has. -/
inductive Tried where
  | none
  | bad (why : Int)
  | got (p : Piece) (n : Nat)

def letters (l : Bs) : Tried :=
  if runL isLet l = 0 then .none
  else if 8 < runL isLet l ∧ isKey (l.take (runL isLet l)) = false then .bad 4
  else .got (.word (l.take (runL isLet l))) (runL isLet l)

/-- The number that digits say, as it is added up. -/
def addUp (x : Int) (c : UInt8) : Int := if x ≤ 1000000000 then 10 * x + ((c.toNat : Int) - 48) else x
def figure (l : Bs) : Int := l.foldl addUp 0
def tilde (l : Bs) : Bool := l.headD 0 == 126
def afterTilde (l : Bs) : Bs := if tilde l then l.tail else l
def digits (l : Bs) : Tried :=
  if runL isDig (afterTilde l) = 0 then .none
  else if (1 < runL isDig (afterTilde l) ∧ (afterTilde l).headD 0 = 48) ∨ (figure ((afterTilde l).take (runL isDig (afterTilde l))) = 0 ∧ tilde l = true) ∨ 1000000000 < figure ((afterTilde l).take (runL isDig (afterTilde l))) then .bad 3
  else .got (.num (if tilde l then -figure ((afterTilde l).take (runL isDig (afterTilde l))) else figure ((afterTilde l).take (runL isDig (afterTilde l))))) (runL isDig (afterTilde l) + (if tilde l then 1 else 0))

def quoted (l : Bs) : Tried :=
  if l.headD 0 ≠ 34 then .none
  else if l.tail.length ≤ runL isTxt l.tail ∨ (l.tail.drop (runL isTxt l.tail)).headD 0 ≠ 34 then .bad 2
  else if 20 < runL isTxt l.tail then .bad 4
  else .got (.str (l.tail.take (runL isTxt l.tail))) (runL isTxt l.tail + 2)

def signAt (l : Bs) : List Bs → Tried
  | [] => .none
  | w :: ws => if w.isPrefixOf l then .got (.sgn w) w.length else signAt l ws
def signed (l : Bs) : Tried := signAt l signWords

/-- The first try that finds something. -/
def orElse : Tried → Tried → Tried
  | .none, t => t
  | t, _ => t
def tried (l : Bs) : Tried := orElse (letters l) (orElse (digits l) (orElse (quoted l) (signed l)))
/-- A piece, or what is wrong. -/
def piece (l : Bs) : Tried :=
  match tried l with
  | .none => .bad 1
  | t => t

/-- How many bytes are skipped, from the head on: blanks and comments; true: within a comment. -/
def skipF : Bool → Bs → Nat
  | _, [] => 0
  | false, c :: t => if isBlank c then skipF false t + 1 else if c.toNat = 35 then skipF true t + 1 else 0
  | true, c :: t => if notNl c then skipF true t + 1 else skipF false t + 1
def skipL (l : Bs) : Nat := skipF false l

/-- All pieces with their places, from a suffix on that begins at a place; and where something is wrong, and what. -/
def readF : Nat → Nat → Bs → List (Nat × Piece) × Option (Nat × Int)
  | 0, _, _ => ([], none)
  | k + 1, pos, l =>
    if l = [] then ([], none) else
    match piece l with
    | .none => ([], none)
    | .bad w => ([], some (pos, w))
    | .got p n =>
      let m := n + skipL (l.drop n)
      let r := readF k (pos + m) (l.drop m)
      ((pos, p) :: r.1, r.2)
def readAll (l : Bs) : List (Nat × Piece) × Option (Nat × Int) := readF (l.length + 1) (skipL l) (l.drop (skipL l))

end Go.Proofs.YtkijoeihkajlcaaDoor.Lx

set_option linter.unusedVariables false
set_option linter.unusedSimpArgs false
namespace Go.Proofs.YtkijoeihkajlcaaDoor
open Go.RowKit

theorem isLetter_calls (c : UInt8) (w : World) : Calls Tryd.prog 32 #[.int .u8 c.toNat] w fun e w' => e = .returned (.bool (Lx.isLet c)) ∧ w = w' := by
  obtain ⟨k, hk⟩ : ∃ k, k = c.toNat := ⟨_, rfl⟩
  unfold Lx.isLet
  rw [← hk]
  clear hk
  by_cases h1 : 97 ≤ k <;> by_cases h2 : k ≤ 122
  all_goals
    go_enter Tryd.func32, Tryd.ntmps32
    go_wp2
    all_goals (go_ret; (try simp [h1, h2]); (try omega))

theorem run_calls (p : UInt8 → Bool) (F : Nat) (hF : ∀ args w, (callFunc F args).run Tryd.prog w = .ok (.enter F args) w)
    (hp : ∀ (c : UInt8) (w : World), Calls Tryd.prog F #[.int .u8 c.toNat] w fun e w' => e = .returned (.bool (p c)) ∧ w = w')
    (s : ByteArray) (at_ : Nat) (w : World) (hat : at_ ≤ s.size) (hs : s.size ≤ 140737488355328) :
    Calls Tryd.prog 83 #[.agg #[.string s], .int .i64 at_, .func (.func F) #[] #[]] w fun e w' =>
      e = .returned (.int .i64 (Lx.runL p (s.data.toList.drop at_))) ∧ Below w.heap.size w w' := by
  go_enter Tryd.func83, Tryd.ntmps83
  go_wp2
  go_loop [7] (fun v7 => ∃ n : Nat, v7 = .int .i64 n ∧ at_ + n ≤ s.size ∧ Hid (Lx.runL p (s.data.toList.drop at_) = Lx.runL p (s.data.toList.drop (at_ + n)) + n)) (fun v7 => (s.size : Int).toNat - (intOf v7).toNat)
  case atStart => exact ⟨0, rfl, by omega, Lib.hid rfl⟩
  case round =>
    obtain ⟨n, rfl, hn, hr⟩ := hrel
    by_cases hlt : at_ + n < s.size
    · go_wp2_with fail
      refine (hp s[at_ + n] _).mono ?_
      rintro e w' ⟨rfl, rfl⟩
      have hd := drop_cons s (at_ + n) hlt
      cases hpc : p s[at_ + n]
      · go_wp2
        go_ret
        exact ⟨ret_int (by rw [hr.out, hd]; simp [Lx.runL, hpc]), (Below.refl _ _).alloc (Nat.le_refl _) _⟩
      · go_wp2
        go_round
        case rel => exact ⟨n + 1, by go_num, by omega, Lib.hid (by rw [hr.out, hd, show at_ + (n + 1) = at_ + n + 1 from rfl]; simp [Lx.runL, hpc]; omega)⟩
        case measure => simp [intOf]; omega
    · go_wp2
      go_ret
      exact ⟨ret_int (by rw [hr.out, List.drop_of_length_le (by simp; omega)]; simp [Lx.runL]), (Below.refl _ _).alloc (Nat.le_refl _) _⟩
end Go.Proofs.YtkijoeihkajlcaaDoor

set_option linter.unusedVariables false
set_option linter.unusedSimpArgs false
namespace Go.Proofs.YtkijoeihkajlcaaDoor
open Go.RowKit Go.Shelf

theorem isDigit_calls (c : UInt8) (w : World) : Calls Tryd.prog 84 #[.int .u8 c.toNat] w fun e w' => e = .returned (.bool (Lx.isDig c)) ∧ w = w' := by
  obtain ⟨k, hk⟩ : ∃ k, k = c.toNat := ⟨_, rfl⟩
  unfold Lx.isDig
  rw [← hk]
  clear hk
  by_cases h1 : 48 ≤ k <;> by_cases h2 : k ≤ 57
  all_goals
    go_enter Tryd.func84, Tryd.ntmps84
    go_wp2
    all_goals (go_ret; (try simp [h1, h2]); (try omega))

theorem isText_calls (c : UInt8) (w : World) : Calls Tryd.prog 57 #[.int .u8 c.toNat] w fun e w' => e = .returned (.bool (Lx.isTxt c)) ∧ w = w' := by
  obtain ⟨k, hk⟩ : ∃ k, k = c.toNat := ⟨_, rfl⟩
  unfold Lx.isTxt
  rw [← hk]
  clear hk
  by_cases h1 : 32 ≤ k <;> by_cases h2 : k ≤ 126 <;> by_cases h3 : k = 34 <;> by_cases h4 : k = 92
  all_goals try (exfalso; omega)
  all_goals
    first
    | subst h3
    | subst h4
    | (have b3 : ((k : Int) != 34) = true := by simp; omega
       have b4 : ((k : Int) != 92) = true := by simp; omega)
  all_goals
    go_enter Tryd.func57, Tryd.ntmps57
    go_wp2
    all_goals (go_ret; (try simp [h1, h2]); (try omega))

theorem notNl_calls (c : UInt8) (w : World) : Calls Tryd.prog 86 #[.int .u8 c.toNat] w fun e w' => e = .returned (.bool (Lx.notNl c)) ∧ w = w' := by
  obtain ⟨k, hk⟩ : ∃ k, k = c.toNat := ⟨_, rfl⟩
  unfold Lx.notNl
  rw [← hk]
  clear hk
  go_enter Tryd.func86, Tryd.ntmps86
  go_wp2
  go_ret
  refine ⟨congrArg (fun b => Ending.returned (.bool b)) ?_, rfl⟩
  by_cases h : k = 10
  · subst h; rfl
  · rw [decide_eq_true h, bne_iff_ne]
    omega

theorem enters_notNl (args : Array Value) (w : World) : (callFunc 86 args).run Tryd.prog w = .ok (.enter 86 args) w := enters_of Tryd.func86 (by kernel_rfl) rfl args w
theorem enters_letter (args : Array Value) (w : World) : (callFunc 32 args).run Tryd.prog w = .ok (.enter 32 args) w := enters_of Tryd.func32 (by kernel_rfl) rfl args w
theorem enters_digit (args : Array Value) (w : World) : (callFunc 84 args).run Tryd.prog w = .ok (.enter 84 args) w := enters_of Tryd.func84 (by kernel_rfl) rfl args w
theorem enters_text (args : Array Value) (w : World) : (callFunc 57 args).run Tryd.prog w = .ok (.enter 57 args) w := enters_of Tryd.func57 (by kernel_rfl) rfl args w

theorem runNl_skip (l : Lx.Bs) : Lx.skipF true l = Lx.runL Lx.notNl l + Lx.skipF false (l.drop (Lx.runL Lx.notNl l)) := by
  induction l with
  | nil => simp [Lx.skipF, Lx.runL]
  | cons c t ih =>
    by_cases h : Lx.notNl c = true
    · simp only [Lx.skipF, Lx.runL, h, if_true, List.drop_succ_cons]
      rw [ih]
      omega
    · have hb : Lx.isBlank c = true := by
        have : c.toNat = 10 := by simpa [Lx.notNl] using h
        simp [Lx.isBlank, this]
      simp [Lx.skipF, Lx.runL, h, hb]

theorem skipF_le : ∀ (l : Lx.Bs) (b : Bool), Lx.skipF b l ≤ l.length
  | [], b => by simp [Lx.skipF]
  | c :: t, true => by
    have h1 := skipF_le t true
    have h2 := skipF_le t false
    simp only [Lx.skipF, List.length_cons]
    split <;> omega
  | c :: t, false => by
    have h1 := skipF_le t true
    have h2 := skipF_le t false
    simp only [Lx.skipF, List.length_cons]
    split
    · omega
    · split <;> omega

theorem skip_calls (s : ByteArray) (at_ : Nat) (w : World) (hat : at_ ≤ s.size) (hs : s.size ≤ 140737488355328) :
    Calls Tryd.prog 72 #[.agg #[.string s], .int .i64 at_] w fun e w' =>
      e = .returned (.int .i64 ((at_ + Lx.skipL (s.data.toList.drop at_) : Nat) : Int)) ∧ Below w.heap.size w w' := by
  go_enter Tryd.func72, Tryd.ntmps72
  go_wp2
  go_loopw [1, 11] (fun v1 v11 wr => ∃ i a : Nat, v1 = .int .i64 a ∧ v11 = .int .i64 i ∧ a ≤ s.size ∧ at_ + i ≤ a ∧ (a = s.size → at_ = s.size) ∧ Hid (at_ + Lx.skipL (s.data.toList.drop at_) = a + Lx.skipL (s.data.toList.drop a)) ∧ Hid (Below (w.heap.size + 1) (w.alloc (.cells #[.string s] 61)) wr)) (fun v1 v11 _ => s.size - (intOf v11).toNat)
  case atStart => exact ⟨0, at_, rfl, rfl, hat, by omega, fun h => h, Lib.hid rfl, Lib.hid (Below.refl _ _)⟩
  case round =>
    obtain ⟨i, a, rfl, rfl, ha, hia, hend, hr, hB⟩ := hrel
    have hcell : wr.cell? ⟨w.heap.size, 0, none⟩ = some (.string s) := by rw [box_cell hB.out 0]; simp
    by_cases hlt : a < s.size
    · clear hend
      have hi : i < s.size - at_ := by omega
      obtain ⟨k, hk⟩ : ∃ k, k = s[a].toNat := ⟨_, rfl⟩
      have hd := Lib.hid (drop_cons s a hlt)
      have hk' := Lib.hid hk
      by_cases hblank : k = 32 ∨ k = 9 ∨ k = 10
      · have hr' : Hid (at_ + Lx.skipL (s.data.toList.drop at_) = (a + 1) + Lx.skipL (s.data.toList.drop (a + 1))) := Lib.hid (by
          have e : Lx.isBlank s[a] = true := by simp only [Lx.isBlank, ← hk]; rcases hblank with h | h | h <;> simp [h]
          rw [hr.out, hd.out]; simp only [Lx.skipL, Lx.skipF, e, if_true]; omega)
        by_cases hlast : a + 1 < s.size
        all_goals
          rcases hblank with h | h | h
          all_goals
            have q1 : ((s[a].toNat : Int) == 32) = decide (k = 32) := by rw [← hk, h]; rfl
            have q2 : ((s[a].toNat : Int) == 9) = decide (k = 9) := by rw [← hk, h]; rfl
            have q3 : ((s[a].toNat : Int) == 10) = decide (k = 10) := by rw [← hk, h]; rfl
            rw [h] at q1 q2 q3
            simp only [Nat.reduceEqDiff, decide_true, decide_false] at q1 q2 q3
            clear hk
            clear h
            go_wp2
            first
            | (go_roundw
               case rel => exact ⟨i + 1, a + 1, by go_num, by go_num, by omega, by omega, by omega, hr', hB⟩
               case measure => simp [intOf]; omega)
            | (go_ret
               exact ⟨ret_int (by
                 have : s.data.toList.drop (a + 1) = [] := List.drop_of_length_le (by simp; omega)
                 rw [hr'.out, this]; simp [Lx.skipL, Lx.skipF]), box_below hB.out⟩)
      · have hbl : Lx.isBlank s[a] = false := by
          simp only [Lx.isBlank, ← hk]
          simp only [not_or] at hblank
          simp [hblank]
        have hbh := Lib.hid hbl
        clear hbl
        have q1 : ((s[a].toNat : Int) == 32) = false := by rw [← hk, beq_eq_false_iff_ne]; omega
        have q2 : ((s[a].toNat : Int) == 9) = false := by rw [← hk, beq_eq_false_iff_ne]; omega
        have q3 : ((s[a].toNat : Int) == 10) = false := by rw [← hk, beq_eq_false_iff_ne]; omega
        by_cases hhash : k = 35
        · have q4 : ((s[a].toNat : Int) == 35) = true := by rw [← hk, hhash]; rfl
          have hnl : Lx.notNl s[a] = true := by simp [Lx.notNl, ← hk, hhash]
          have hrun : Hid (Lx.skipL (s.data.toList.drop a) = Lx.runL Lx.notNl (s.data.toList.drop a) + Lx.skipL (s.data.toList.drop (a + Lx.runL Lx.notNl (s.data.toList.drop a)))) := Lib.hid (by
            have e1 : Lx.skipL (s.data.toList.drop a) = Lx.skipF true (s.data.toList.drop a) := by
              rw [hd.out]; simp [Lx.skipL, Lx.skipF, hbh.out, ← hk, hhash, hnl]
            rw [e1, runNl_skip, List.drop_drop]; rfl)
          have hle := Lx.runL_le Lx.notNl (s.data.toList.drop a)
          have hpos : 1 ≤ Lx.runL Lx.notNl (s.data.toList.drop a) := by rw [hd.out]; simp [Lx.runL, hnl]
          simp only [List.length_drop, Array.length_toList] at hle
          obtain ⟨m, hm⟩ : ∃ m, m = Lx.runL Lx.notNl (s.data.toList.drop a) := ⟨_, rfl⟩
          have hmh := Lib.hid hm
          rw [← hm] at hle hpos
          have hle' : a + m ≤ s.size := by have : s.data.size = s.size := rfl; omega
          clear hm hle hk hhash hblank hnl
          go_wp2_with fail
          refine (run_calls Lx.notNl 86 enters_notNl notNl_calls s a _ (by omega) hs).mono ?_
          rintro e w1 ⟨rfl, hb1⟩
          rw [← hmh.out]
          have hB' := Lib.hid (below_then hB.out hb1 (by simp))
          clear hB hcell
          have hcell : w1.cell? ⟨w.heap.size, 0, none⟩ = some (.string s) := by rw [box_cell hB'.out 0]; simp
          by_cases hlast : a + m < s.size
          · go_wp2
            go_roundw
            case rel => exact ⟨i + 1, a + m, by go_num, by go_num, by omega, by omega, by omega, Lib.hid (by rw [hr.out, hrun.out, ← hmh.out]; omega), hB'⟩
            case measure => simp [intOf]; omega
          · go_wp2
            go_ret
            exact ⟨ret_int (by
              have : s.data.toList.drop (a + m) = [] := List.drop_of_length_le (by simp; omega)
              rw [hr.out, hrun.out, ← hmh.out, this]; simp [Lx.skipL, Lx.skipF]), box_below hB'.out⟩
        · have q4 : ((s[a].toNat : Int) == 35) = false := by rw [← hk, beq_eq_false_iff_ne]; omega
          have hr' : Hid (at_ + Lx.skipL (s.data.toList.drop at_) = a) := Lib.hid (by
            rw [hr.out, hd.out]; simp [Lx.skipL, Lx.skipF, hbh.out, ← hk, hhash])
          clear hk hhash hblank
          go_wp2
          go_ret
          exact ⟨ret_int (by rw [hr'.out]), box_below hB.out⟩
    · have hae : a = s.size := by omega
      have := hend hae
      clear hend
      subst hae
      go_wp2
      go_ret
      exact ⟨ret_int (by rw [hr.out, List.drop_of_length_le (by simp)]; simp [Lx.skipL, Lx.skipF]), box_below hB.out⟩
end Go.Proofs.YtkijoeihkajlcaaDoor

set_option linter.unusedVariables false
set_option linter.unusedSimpArgs false
namespace Go.Proofs.YtkijoeihkajlcaaDoor
open Go.RowKit Go.Shelf

/-- A piece as the program keeps it. -/
def encPiece : Lx.Piece → Value
  | .word l => .iface 82 (.agg #[strV l])
  | .num n => .iface 84 (.agg #[.int .i64 n])
  | .str l => .iface 85 (.agg #[strV l])
  | .sgn l => .iface 86 (.agg #[strV l])
/-- What a panic carries. -/
def wrongV (at_ : Nat) (why : Int) : Value := .iface 65 (.agg #[.int .i64 at_, .int .i64 why])
/-- How a try ends. -/
def TriedAt (at_ : Nat) : Lx.Tried → Ending → Prop
  | .none, e => e = .returned (.tuple #[.nilIface, .int .i64 0])
  | .bad why, e => e = .panicked [{ v := wrongV at_ why, recovered := false }]
  | .got p n, e => e = .returned (.tuple #[encPiece p, .int .i64 n])

theorem extract_eq (s : ByteArray) (a n b : Nat) (h : b = a + n) : Value.string (s.extract a b) = strV ((s.data.toList.drop a).take n) := by
  subst h
  unfold strV
  congr 1
  apply ByteArray.ext
  apply Array.ext'
  rw [Lib.extract_data]
  simp

theorem drop_headD (s : ByteArray) (i : Nat) (h : i < s.size) : (s.data.toList.drop i).headD 0 = s[i] := by rw [drop_cons s i h]; rfl
theorem drop_tail (s : ByteArray) (i : Nat) : (s.data.toList.drop i).tail = s.data.toList.drop (i + 1) := by simp

theorem u8_ne {c : UInt8} {k : Nat} (hk : k < 256) : ((c.toNat : Int) == (k : Int)) = decide (c = UInt8.ofNat k) := by
  rw [Bool.eq_iff_iff, beq_iff_eq, decide_eq_true_iff]
  constructor
  · intro h
    apply UInt8.toNat_inj.1
    have : c.toNat = k := by omega
    rw [this]
    simp [Nat.mod_eq_of_lt hk]
  · rintro rfl
    simp [Nat.mod_eq_of_lt hk]

theorem quoted_calls (s : ByteArray) (at_ : Nat) (w : World) (hat : at_ < s.size) (hs : s.size ≤ 140737488355328) :
    Calls Tryd.prog 70 #[.agg #[.string s], .int .i64 at_] w fun e w' =>
      TriedAt at_ (Lx.quoted (s.data.toList.drop at_)) e ∧ Below w.heap.size w w' := by
  unfold Lx.quoted
  rw [drop_headD s at_ hat, drop_tail]
  by_cases hq : s[at_] = 34
  · rw [if_neg (by simp [hq])]
    have q1 : ((s[at_].toNat : Int) != 34) = false := by rw [hq]; rfl
    have hle := Lx.runL_le Lx.isTxt (s.data.toList.drop (at_ + 1))
    obtain ⟨m, hm⟩ : ∃ m, m = Lx.runL Lx.isTxt (s.data.toList.drop (at_ + 1)) := ⟨_, rfl⟩
    rw [← hm]
    rw [← hm] at hle
    have hmh := Lib.hid hm
    clear hm hq
    simp only [List.length_drop, Array.length_toList] at hle
    have hsz : s.data.size = s.size := rfl
    have hle' : at_ + 1 + m ≤ s.size := by omega
    by_cases hend : at_ + 1 + m = s.size
    · rw [if_pos (by left; simp; omega)]
      have hge : s.size ≤ at_ + 1 + m := by omega
      clear hend hle
      go_enter Tryd.func70, Tryd.ntmps70
      go_wp2_with fail
      refine (run_calls Lx.isTxt 57 enters_text isText_calls s (at_ + 1) _ (by omega) hs).mono ?_
      rintro e w1 ⟨rfl, hb1⟩
      rw [← hmh.out]
      have hb2 := Lib.hid (box_below (new_below hb1))
      have hcell : w1.cell? ⟨w.heap.size, 0, none⟩ = some (.string s) := by rw [box_cell (new_below hb1) 0]; simp
      clear hb1
      go_wp2
      exact ⟨rfl, rfl, hb2.out⟩
    · have hin : at_ + 1 + m < s.size := by omega
      have hge : ¬ (s.data.toList.drop (at_ + 1)).length ≤ m := by simp; omega
      rw [List.drop_drop, drop_headD s (at_ + 1 + m) hin]
      simp only [hge, false_or]
      clear hend hle hge
      have hv : ((s[at_ + 1 + m].toNat : Int) != 34) = decide (s[at_ + 1 + m] ≠ 34) := by
        have := u8_ne (c := s[at_ + 1 + m]) (k := 34) (by omega)
        simp only [bne, Int.cast_ofNat_Int] at this ⊢
        rw [this]
        simp
      by_cases hq2 : s[at_ + 1 + m] = 34
      · rw [if_neg (by simp [hq2])]
        have q2 : ((s[at_ + 1 + m].toNat : Int) != 34) = false := by rw [hv]; simp [hq2]
        clear hq2 hv
        by_cases hlong : 20 < m
        · rw [if_pos hlong]
          go_enter Tryd.func70, Tryd.ntmps70
          go_wp2_with fail
          refine (run_calls Lx.isTxt 57 enters_text isText_calls s (at_ + 1) _ (by omega) hs).mono ?_
          rintro e w1 ⟨rfl, hb1⟩
          rw [← hmh.out]
          have hb2 := Lib.hid (box_below (new_below hb1))
          have hcell : w1.cell? ⟨w.heap.size, 0, none⟩ = some (.string s) := by rw [box_cell (new_below hb1) 0]; simp
          clear hb1
          go_wp2
          exact ⟨rfl, rfl, hb2.out⟩
        · rw [if_neg hlong]
          go_enter Tryd.func70, Tryd.ntmps70
          go_wp2_with fail
          refine (run_calls Lx.isTxt 57 enters_text isText_calls s (at_ + 1) _ (by omega) hs).mono ?_
          rintro e w1 ⟨rfl, hb1⟩
          rw [← hmh.out]
          have hb2 := Lib.hid (box_below (new_below hb1))
          have hcell : w1.cell? ⟨w.heap.size, 0, none⟩ = some (.string s) := by rw [box_cell (new_below hb1) 0]; simp
          clear hb1
          go_wp2
          go_ret2
          refine ⟨?_, hb2.out⟩
          show Ending.returned _ = Ending.returned _
          rw [encPiece, ← extract_eq s (at_ + 1) m (at_ + 1 + m) rfl]
          simp
      · rw [if_pos hq2]
        have q2 : ((s[at_ + 1 + m].toNat : Int) != 34) = true := by rw [hv]; simp [hq2]
        clear hq2 hv
        go_enter Tryd.func70, Tryd.ntmps70
        go_wp2_with fail
        refine (run_calls Lx.isTxt 57 enters_text isText_calls s (at_ + 1) _ (by omega) hs).mono ?_
        rintro e w1 ⟨rfl, hb1⟩
        rw [← hmh.out]
        have hb2 := Lib.hid (box_below (new_below hb1))
        have hcell : w1.cell? ⟨w.heap.size, 0, none⟩ = some (.string s) := by rw [box_cell (new_below hb1) 0]; simp
        clear hb1
        go_wp2
        exact ⟨rfl, rfl, hb2.out⟩
  · rw [if_pos hq]
    have q1 : ((s[at_].toNat : Int) != 34) = true := by
      rw [bne_iff_ne]
      intro h
      exact hq (UInt8.toNat_inj.1 (by have : s[at_].toNat = 34 := by omega
                                      rw [this]; rfl))
    clear hq
    go_enter Tryd.func70, Tryd.ntmps70
    go_wp2
    go_ret2
    exact ⟨rfl, (Below.refl _ _).alloc (Nat.le_refl _) _⟩
end Go.Proofs.YtkijoeihkajlcaaDoor

set_option linter.unusedVariables false
set_option linter.unusedSimpArgs false
namespace Go.Proofs.YtkijoeihkajlcaaDoor
open Go.RowKit Go.Shelf

theorem runL_all (p : UInt8 → Bool) : ∀ (l : Lx.Bs) (i : Nat) (c : UInt8), (l.take (Lx.runL p l))[i]? = some c → p c = true
  | [], i, c, h => by simp at h
  | a :: t, i, c, h => by
    unfold Lx.runL at h
    split at h
    · rename_i ha
      rw [List.take_succ_cons] at h
      cases i with
      | zero => simp at h; rw [← h]; exact ha
      | succ i => exact runL_all p t i c (by simpa using h)
    · simp at h

theorem figure_snoc (l : Lx.Bs) (c : UInt8) : Lx.figure (l ++ [c]) = Lx.addUp (Lx.figure l) c := by simp [Lx.figure]
theorem figure_bound (l : Lx.Bs) (h : ∀ c ∈ l, 48 ≤ c.toNat ∧ c.toNat ≤ 57) : 0 ≤ Lx.figure l ∧ Lx.figure l ≤ 10000000009 := by
  unfold Lx.figure
  have key : ∀ (l : Lx.Bs) (x : Int), (∀ c ∈ l, 48 ≤ c.toNat ∧ c.toNat ≤ 57) → 0 ≤ x → x ≤ 10000000009 → 0 ≤ l.foldl Lx.addUp x ∧ l.foldl Lx.addUp x ≤ 10000000009 := by
    intro l
    induction l with
    | nil => intro x _ h0 h1; exact ⟨h0, h1⟩
    | cons c t ih =>
      intro x hc h0 h1
      have := hc c (by simp)
      refine ih _ (fun d hd => hc d (by simp [hd])) ?_ ?_ <;> (unfold Lx.addUp; split <;> omega)
  exact key l 0 h (by omega) (by omega)
theorem isDig_iff (c : UInt8) : Lx.isDig c = true ↔ 48 ≤ c.toNat ∧ c.toNat ≤ 57 := by simp [Lx.isDig]

/-- The world, an iterator over a string having been laid: as the walk spells it. -/
theorem iter_below (w : World) (s : ByteArray) (i : Nat) : Below w.heap.size w (w.iter s i) := (Below.refl _ _).alloc (Nat.le_refl _) _
theorem iter_cell (w : World) (s : ByteArray) (i b j : Nat) (h : b < w.heap.size) : (w.iter s i).cell? ⟨b, j, none⟩ = w.cell? ⟨b, j, none⟩ := (iter_below w s i).cell (p := ⟨b, j, none⟩) h

theorem take_succ_data (s : ByteArray) (i : Nat) (h : i < s.size) : s.data.toList.take (i + 1) = s.data.toList.take i ++ [s[i]] := by
  rw [List.take_succ_eq_append_getElem (by simpa using h)]; rfl

set_option maxHeartbeats 1000000 in
theorem digits_calls (s : ByteArray) (at_ : Nat) (w : World) (hat : at_ < s.size) (hs : s.size ≤ 140737488355328) :
    Calls Tryd.prog 69 #[.agg #[.string s], .int .i64 at_] w fun e w' =>
      TriedAt at_ (Lx.digits (s.data.toList.drop at_)) e ∧ Below w.heap.size w w' := by
  -- where the digits begin
  obtain ⟨neg, hneg⟩ : ∃ neg : Bool, neg = Lx.tilde (s.data.toList.drop at_) := ⟨_, rfl⟩
  obtain ⟨fr, hfr⟩ : ∃ fr : Nat, fr = at_ + (if neg then 1 else 0) := ⟨_, rfl⟩
  have hd : Lx.afterTilde (s.data.toList.drop at_) = s.data.toList.drop fr := by
    unfold Lx.afterTilde
    rw [← hneg, hfr]
    cases neg <;> simp
  have q1 : ((s[at_].toNat : Int) == 126) = neg := by
    rw [hneg, Lx.tilde, drop_headD s at_ hat]
    have := u8_ne (c := s[at_]) (k := 126) (by omega)
    simp only [Int.cast_ofNat_Int] at this
    rw [this, Bool.eq_iff_iff, decide_eq_true_iff, beq_iff_eq]
    rfl
  have hfr1 : fr ≤ s.size := by rw [hfr]; split <;> omega
  have hfr2 : at_ ≤ fr := by rw [hfr]; split <;> omega
  obtain ⟨T, hT⟩ : ∃ T, T = Lx.digits (s.data.toList.drop at_) := ⟨_, rfl⟩
  rw [← hT]
  unfold Lx.digits at hT
  rw [hd, ← hneg] at hT
  have hle := Lx.runL_le Lx.isDig (s.data.toList.drop fr)
  have hall := runL_all Lx.isDig (s.data.toList.drop fr)
  obtain ⟨n, hn⟩ : ∃ n, n = Lx.runL Lx.isDig (s.data.toList.drop fr) := ⟨_, rfl⟩
  rw [← hn] at hle hall hT
  simp only [List.length_drop, Array.length_toList] at hle
  have hsz : s.data.size = s.size := rfl
  have hle' : fr + n ≤ s.size := by omega
  have hnh := Lib.hid hn
  clear hd hneg hn hle hsz
  by_cases hn0 : n = 0
  · rw [if_pos hn0] at hT
    subst hT
    subst hn0
    cases neg
    all_goals
      simp only [Bool.false_eq_true, if_false, if_true, Nat.add_zero] at hfr
      subst hfr
      go_enter Tryd.func69, Tryd.ntmps69
      go_wp2_with fail
      refine (run_calls Lx.isDig 84 enters_digit isDigit_calls s _ _ hfr1 hs).mono ?_
      rintro e w1 ⟨rfl, hb1⟩
      rw [← hnh.out]
      have hb2 := Lib.hid (box_below (new_below hb1))
      clear hb1
      go_wp2
      go_ret2
      exact ⟨rfl, hb2.out⟩
  · rw [if_neg hn0] at hT
    -- the digits as a string of their own
    obtain ⟨wd, hwd⟩ : ∃ wd, wd = s.extract fr (fr + n) := ⟨_, rfl⟩
    have hwl : wd.data.toList = (s.data.toList.drop fr).take n := by rw [hwd, Lib.extract_data]; simp
    have hwn : wd.size = n := by rw [hwd]; simp; omega
    rw [← hwl] at hall hT
    have hX := figure_bound wd.data.toList (fun c hc => by
      obtain ⟨i, hi, rfl⟩ := List.getElem_of_mem hc
      exact (isDig_iff _).1 (hall i _ (List.getElem?_eq_getElem hi)))
    have hhead : (s.data.toList.drop fr).headD 0 = wd.data.toList.headD 0 := by
      rw [hwl]
      cases n with
      | zero => exact absurd rfl hn0
      | succ n => cases s.data.toList.drop fr <;> simp
    rw [hhead] at hT
    obtain ⟨X, hXd⟩ : ∃ X, X = Lx.figure wd.data.toList := ⟨_, rfl⟩
    rw [← hXd] at hX hT
    have hTh := Lib.hid hT
    clear hT
    have hXh := Lib.hid hXd
    have hwh := Lib.hid hwd
    have hwnh := Lib.hid hwn
    have hallh := Lib.hid hall
    have hn1 : 1 ≤ n := by omega
    have hn0b : ((n : Int) == 0) = false := by rw [beq_eq_false_iff_ne]; omega
    have hwp : 0 < wd.size := by omega
    clear hXd hwl hhead hwd hall hwn hn0
    cases neg
    all_goals
      simp only [Bool.false_eq_true, if_false, if_true, Nat.add_zero] at hfr
      subst hfr
      go_enter Tryd.func69, Tryd.ntmps69
      go_wp2_with fail
      refine (run_calls Lx.isDig 84 enters_digit isDigit_calls s _ _ hfr1 hs).mono ?_
      rintro e w1 ⟨rfl, hb1⟩
      rw [← hnh.out]
      have hb2 := Lib.hid (box_below (new_below hb1))
      have hcell : w1.cell? ⟨w.heap.size, 0, none⟩ = some (.string s) := by rw [box_cell (new_below hb1) 0]; simp
      have hsz1 : w.heap.size < w1.heap.size := by have := hb1.size; simp at this; omega
      clear hb1
      go_wp2
      rw [← hwh.out]
      go_loopg [9] wd.size (fun g v9 wr => ∃ i : Nat, i ≤ wd.size ∧ Hid (g + i = wd.size) ∧ Hid (v9 = .int .i64 (Lx.figure (wd.data.toList.take i))) ∧ wr = w1.iter wd i)
      case atStart => exact ⟨0, Nat.zero_le _, Lib.hid rfl, Lib.hid rfl, rfl⟩
      case round =>
        obtain ⟨i, hi, hg, hv, rfl⟩ := hrel
        rw [hv.out]
        have hb := figure_bound (wd.data.toList.take i) (fun c hc => by
          obtain ⟨j, hj, rfl⟩ := List.getElem_of_mem (List.mem_of_mem_take hc)
          exact (isDig_iff _).1 (hallh.out j _ (List.getElem?_eq_getElem hj)))
        have hcell2 : (w1.iter wd i).cell? ⟨w.heap.size, 0, none⟩ = some (.string s) := by rw [iter_cell w1 wd i _ _ hsz1]; exact hcell
        by_cases hlt : i < wd.size
        · have hdg : 48 ≤ wd[i].toNat ∧ wd[i].toNat ≤ 57 := (isDig_iff _).1 (hallh.out i _ (by
            rw [List.getElem?_eq_getElem (by simpa using hlt)]; rfl))
          have hnext := fun ty => run_next_ascii (P := Tryd.prog) w1 wd i ty hlt (by omega)
          have hs1 := Lib.hid (figure_snoc (wd.data.toList.take i) wd[i])
          rw [← take_succ_data wd i hlt] at hs1
          obtain ⟨x, hx⟩ : ∃ x, x = Lx.figure (wd.data.toList.take i) := ⟨_, rfl⟩
          rw [← hx] at hb hs1 ⊢
          clear hx
          by_cases hxm : x ≤ 1000000000
          · go_wp2
            go_roundg (wd.size - (i + 1))
            case measure => have := hg.out; omega
            case rel => exact ⟨i + 1, by omega, Lib.hid (by omega), Lib.hid (by rw [hs1.out, Lx.addUp, if_pos hxm]), rfl⟩
          · go_wp2
            go_roundg (wd.size - (i + 1))
            case measure => have := hg.out; omega
            case rel => exact ⟨i + 1, by omega, Lib.hid (by omega), Lib.hid (by rw [hs1.out, Lx.addUp, if_neg (by omega)]), rfl⟩
        · have hend := fun ty => run_next_end (P := Tryd.prog) w1 wd i ty hlt
          have hfig : Lx.figure (wd.data.toList.take i) = X := by rw [hXh.out, List.take_of_length_le]; simp; omega
          rw [hfig]
          clear hfig hb hv hallh
          have hbF := Lib.hid (below_then hb2.out (iter_below w1 wd i) (Nat.le_refl _))
          obtain ⟨h48, hh48⟩ : ∃ h48 : Bool, h48 = (wd.data.toList.headD 0 == 48) := ⟨_, rfl⟩
          have hhd : wd.data.toList.headD 0 = wd[0] := by have := drop_headD wd 0 hwp; simpa using this
          have r1 : ((wd[0].toNat : Int) == 48) = h48 := by
            rw [hh48, hhd]
            have := u8_ne (c := wd[0]) (k := 48) (by omega)
            simp only [Int.cast_ofNat_Int] at this
            rw [this, Bool.eq_iff_iff, decide_eq_true_iff, beq_iff_eq]
            rfl
          have hcond : Hid ((wd.data.toList.headD 0 = 48) = (h48 = true)) := Lib.hid (by rw [hh48, beq_iff_eq])
          clear hh48 hhd
          by_cases hn2 : 1 < n
          all_goals cases h48
          all_goals by_cases hx0 : X = 0
          all_goals by_cases hxl : 1000000000 < X
          all_goals try (exfalso; omega)
          all_goals
            first
            | subst hx0
            | have hx1 : (X == 0) = false := by rw [beq_eq_false_iff_ne]; exact hx0
          all_goals
            go_wp2
            first
            | (refine ⟨rfl, ?_, hbF.out⟩
               rw [hTh.out, if_pos (by rw [hcond.out]; first | (simp; done) | (simp; omega) | (simp [hn2]; done) | (simp [hn2]; omega))]
               rfl)
            | (go_ret2
               refine ⟨?_, hbF.out⟩
               rw [hTh.out, if_neg (by rw [hcond.out]; first | (simp; done) | (simp; omega) | (simp [hn2]; done) | (simp [hn2]; omega))]
               exact ret_two rfl (by simp; try omega))
end Go.Proofs.YtkijoeihkajlcaaDoor

set_option linter.unusedVariables false
set_option linter.unusedSimpArgs false
namespace Go.Proofs.YtkijoeihkajlcaaDoor
open Go.RowKit Go.Shelf

/-- What the library's tables hold: given with the row, tied to the program's text by the card. -/
structure Laid (w : World) : Prop where
  space : Lib.TabIs Tryd.prog w "strings.asciiSpace" .u8 Lib.asciiSpaceTab
  pow : Lib.TabIs Tryd.prog w "internal/strconv.uint64pow10" .u64 Lib.pow10Tab

/-- What lay in the first world lies in the second one as it did. -/
def SameTo (w w' : World) : Prop := ∀ k, k < w.heap.size → w'.heap[k]? = w.heap[k]?
theorem SameTo.of_below {w w' : World} (h : Below w.heap.size w w') : SameTo w w' := h.block
theorem SameTo.then {w w1 w2 : World} (h : SameTo w w1) (hs : w.heap.size ≤ w1.heap.size) (hb : Below w1.heap.size w1 w2) : SameTo w w2 := fun k hk => (hb.block k (Nat.lt_of_lt_of_le hk hs)).trans (h k hk)
theorem tab_same {P : Program} {n : String} {k : IntKind} {zs : List Int} {w w' : World} (h : Lib.TabIs P w n k zs) (hb : SameTo w w') : Lib.TabIs P w' n k zs := by
  unfold Lib.TabIs World.var? at *
  cases hg : P.globalNamed n with
  | none => rw [hg] at h; cases h
  | some g =>
    rw [hg] at h
    simp only [Option.bind_some] at h ⊢
    cases ho : w.heap[g]? with
    | none => rw [ho] at h; cases h
    | some o =>
      rw [hb g (Array.getElem?_eq_some_iff.1 ho).1]
      exact h
theorem Laid.same {w w' : World} (h : Laid w) (hb : SameTo w w') : Laid w' := ⟨tab_same h.space hb, tab_same h.pow hb⟩
theorem Laid.below {w w' : World} (h : Laid w) (hb : Below w.heap.size w w') : Laid w' := h.same (.of_below hb)

def keyText : ByteArray := ⟨#[97, 108, 108, 32, 97, 110, 100, 32, 98, 111, 111, 108, 32, 98, 121, 32, 99, 111, 117, 110, 116, 32, 101, 108, 115, 101, 32, 102, 97, 108, 115, 101, 32, 102, 105, 120, 32, 102, 111, 114, 32, 102, 114, 111, 109, 32, 103, 114, 101, 97, 116, 32, 105, 102, 32, 105, 110, 32, 105, 110, 116, 32, 108, 97, 119, 32, 108, 101, 97, 115, 116, 32, 109, 101, 101, 116, 32, 109, 105, 110, 117, 115, 32, 109, 111, 100, 117, 108, 101, 32, 110, 111, 110, 101, 32, 110, 111, 116, 32, 111, 112, 32, 111, 114, 32, 112, 105, 99, 107, 32, 115, 111, 109, 101, 32, 115, 117, 109, 32, 116, 101, 120, 116, 32, 116, 104, 101, 110, 32, 116, 114, 117, 101, 32, 117, 110, 105, 111, 110, 32, 118, 97, 114, 32, 119, 104, 105, 108, 101, 32, 119, 105, 116, 104, 105, 110]⟩
theorem fields_key : Lib.fields keyText.data.toList = Lx.keyWords := by decide +kernel
theorem keyText_ascii : ∀ (j : Nat) b, keyText.data.toList[j]? = some b → b.toNat < 128 := by
  have h : ∀ b ∈ keyText.data.toList, b.toNat < 128 := by decide +kernel
  exact fun j b hb => h b (List.mem_of_getElem? hb)
theorem keyText_size : keyText.size < 4294967281 := by decide +kernel

/-- The set that keywords makes. -/
def KeySet (w : World) (b : Nat) (S : List Lx.Bs) : Prop := ∃ m, MapS w b m ∧ ∀ x, look m x = if x ∈ S then some (.bool true) else none
theorem KeySet.upd {w' : World} {b : Nat} {S : List Lx.Bs} {m : List (List UInt8 × Value)} {x : Lx.Bs} (hl : ∀ x, look m x = if x ∈ S then some (.bool true) else none) (h : MapS w' b (upd x (.bool true) m)) : KeySet w' b (S ++ [x]) :=
  ⟨_, h, fun y => by
    rw [look_upd, hl y]
    by_cases hy : x = y
    · simp [hy]
    · simp [hy, Ne.symm hy]⟩

set_option maxRecDepth 100000 in
theorem keywords_calls (w : World) (hL : Laid w) :
    Calls Tryd.prog 33 #[] w fun e w' => ∃ b, e = .returned (.map (some b)) ∧ KeySet w' b Lx.keyWords ∧ Below w.heap.size w w' := by
  have hmm := @run_makeMap Tryd.prog
  go_enter Tryd.func33, Tryd.ntmps33
  go_wp2_with fail
  have hL1 := hL.below ((Below.refl w.heap.size w).alloc (Nat.le_refl _) (.map #[] 0))
  refine (Tryd.strings_Fields keyText _ keyText_size keyText_ascii hL1.space).mono ?_
  rintro e w1 ⟨rfl, hw1⟩
  rw [fields_key] at hw1 ⊢
  rw [World.size_alloc]
  have hlen : Lx.keyWords.length = 33 := rfl
  have hcells : ∀ j, j < 33 → w1.cell? ⟨w.heap.size + 1, j, none⟩ = some (strV (Lx.keyWords.getD j [])) := fun j hj => by
    rw [hw1, show w.heap.size + 1 = (w.alloc (.map #[] 0)).heap.size from (World.size_alloc _ _).symm, World.cell?_alloc_new]
    simp [strV, List.getD_eq_getElem?_getD, List.getElem?_eq_getElem (show j < Lx.keyWords.length by omega)]
  have hset : KeySet w1 w.heap.size [] := ⟨[], by
    rw [hw1]
    exact (MapS.made w).below ((Below.refl _ _).alloc (Nat.le_refl _) _) (by simp), fun x => by simp [look_nil]⟩
  have hbel : Below w.heap.size w w1 := by
    rw [hw1]
    exact ((Below.refl w.heap.size w).alloc (Nat.le_refl _) _).alloc (by simp) _
  have hsz : w.heap.size + 1 < w1.heap.size := by rw [hw1]; simp
  clear hw1 hL1
  rw [hlen]
  go_wp2
  go_loopg [7] 33 (fun g v7 wr => ∃ i : Nat, v7 = .int .i64 i ∧ Hid (g + i = 33) ∧ Hid (KeySet wr w.heap.size (Lx.keyWords.take i)) ∧ Hid (w1.grownBy wr (some w.heap.size)))
  case atStart => exact ⟨0, rfl, Lib.hid rfl, Lib.hid hset, Lib.hid ⟨rfl, rfl, rfl, Nat.le_refl _, fun _ _ _ => rfl⟩⟩
  case round =>
    obtain ⟨i, rfl, hg, hs, hB⟩ := hrel
    have hcellsh := Lib.hid hcells
    clear hcells
    have hsr : w1.heap.size ≤ wr.heap.size := hB.out.size
    by_cases hlt : i < 33
    · have hc : wr.cell? ⟨w.heap.size + 1, i, none⟩ = some (strV (Lx.keyWords.getD i [])) := (World.cell?_of_block (hB.out.block (w.heap.size + 1) hsz (by simp))).trans (hcellsh.out i hlt)
      obtain ⟨kw, hkw⟩ : ∃ kw, kw = Lx.keyWords.getD i [] := ⟨_, rfl⟩
      rw [← hkw] at hc
      have hkh := Lib.hid hkw
      clear hkw
      obtain ⟨m, hm, hl⟩ := hs.out
      have hmh := Lib.hid hm
      have hlh := Lib.hid hl
      clear hm hl
      go_wp2_with (at_mapUpdate; refine wpList_mapUpdate_mapS _ rfl _ _ _ 53 rfl 9 4 Tryd.underlying53 Tryd.underlying9 w.heap.size m rfl hmh.out kw (.bool true) rfl rfl ?_; intro w2 hm2 hg2)
      go_roundg (33 - (i + 1))
      case measure => have := hg.out; omega
      case rel => exact ⟨i + 1, by go_num, Lib.hid (by omega), Lib.hid (by
          have := KeySet.upd hlh.out hm2
          rw [hkh.out] at this
          have hi' : i < Lx.keyWords.length := by rw [hlen]; exact hlt
          rw [List.take_succ_eq_append_getElem hi']
          rw [List.getD_eq_getElem?_getD, List.getElem?_eq_getElem hi'] at this
          exact this), Lib.hid (World.grownBy.trans hB.out hg2)⟩
    · have hi : i = 33 := by have := hg.out; omega
      subst hi
      go_wp2
      go_ret
      refine ⟨_, rfl, ?_, hbel.grown hB.out hbel.size (fun k hk => by cases hk; exact Nat.le_refl _)⟩
      have := hs.out
      rwa [List.take_of_length_le (by rw [hlen]; exact Nat.le_refl _)] at this

theorem keySet_look {w : World} {b : Nat} (h : KeySet w b Lx.keyWords) (s : ByteArray) :
    (Instr.lookup 53 (.map (some b)) (.string s) false).run Tryd.prog w = .ok (.bool (Lx.isKey s.data.toList)) w := by
  obtain ⟨m, hm, hl⟩ := h
  have hlook := run_lookup_mapS (P := Tryd.prog) hm 53 9 4 Tryd.underlying53 Tryd.underlying9 (.bool false) (by kernel_rfl) s.data.toList false
  rw [strV_data, hl] at hlook
  have hk : ((if s.data.toList ∈ Lx.keyWords then some (Value.bool true) else none).getD (Value.bool false)) = .bool (Lx.isKey s.data.toList) := by
    unfold Lx.isKey
    by_cases h : s.data.toList ∈ Lx.keyWords
    · rw [if_pos h]; simp [h]
    · rw [if_neg h]; simp [h]
  simp only [Bool.false_eq_true, if_false] at hlook
  rw [hk] at hlook
  exact hlook

theorem Key_calls (s : ByteArray) (w : World) (hL : Laid w) :
    Calls Tryd.prog 13 #[.string s] w fun e w' => e = .returned (.bool (Lx.isKey s.data.toList)) ∧ Below w.heap.size w w' := by
  go_enter Tryd.func13, Tryd.ntmps13
  go_wp2_with fail
  refine (keywords_calls _ hL).mono ?_
  rintro e w1 ⟨b, rfl, hset, hb⟩
  have hlook := keySet_look hset s
  clear hset
  go_wp2
  go_ret
  exact ⟨rfl, hb⟩
end Go.Proofs.YtkijoeihkajlcaaDoor

set_option linter.unusedVariables false
set_option linter.unusedSimpArgs false
namespace Go.Proofs.YtkijoeihkajlcaaDoor
open Go.RowKit Go.Shelf

theorem letters_calls (s : ByteArray) (at_ : Nat) (w : World) (hL : Laid w) (hat : at_ < s.size) (hs : s.size ≤ 140737488355328) :
    Calls Tryd.prog 68 #[.agg #[.string s], .int .i64 at_] w fun e w' =>
      TriedAt at_ (Lx.letters (s.data.toList.drop at_)) e ∧ Below w.heap.size w w' := by
  obtain ⟨T, hT⟩ : ∃ T, T = Lx.letters (s.data.toList.drop at_) := ⟨_, rfl⟩
  rw [← hT]
  unfold Lx.letters at hT
  have hle := Lx.runL_le Lx.isLet (s.data.toList.drop at_)
  obtain ⟨n, hn⟩ : ∃ n, n = Lx.runL Lx.isLet (s.data.toList.drop at_) := ⟨_, rfl⟩
  rw [← hn] at hle hT
  simp only [List.length_drop, Array.length_toList] at hle
  have hsz : s.data.size = s.size := rfl
  have hle' : at_ + n ≤ s.size := by omega
  have hnh := Lib.hid hn
  have hTh := Lib.hid hT
  clear hn hT hle hsz
  by_cases hn0 : n = 0
  · subst hn0
    go_enter Tryd.func68, Tryd.ntmps68
    go_wp2_with fail
    refine (run_calls Lx.isLet 32 enters_letter isLetter_calls s _ _ (by omega) hs).mono ?_
    rintro e w1 ⟨rfl, hb1⟩
    rw [← hnh.out]
    have hb2 := Lib.hid (box_below (new_below hb1))
    clear hb1
    go_wp2
    go_ret2
    refine ⟨?_, hb2.out⟩
    rw [hTh.out, if_pos trivial]
    rfl
  · have hn0b : ((n : Int) == 0) = false := by rw [beq_eq_false_iff_ne]; omega
    obtain ⟨wd, hwd⟩ : ∃ wd, wd = s.extract at_ (at_ + n) := ⟨_, rfl⟩
    have hwl : Hid (strV ((s.data.toList.drop at_).take n) = .string wd) := Lib.hid (by rw [hwd]; exact (extract_eq s at_ n (at_ + n) rfl).symm)
    have hwk : Hid (Lx.isKey wd.data.toList = Lx.isKey ((s.data.toList.drop at_).take n)) := Lib.hid (by rw [hwd, Lib.extract_data]; simp)
    have hwh := Lib.hid hwd
    clear hwd
    by_cases h8 : 8 < n
    · obtain ⟨k, hk⟩ : ∃ k, k = Lx.isKey wd.data.toList := ⟨_, rfl⟩
      have hkh := Lib.hid hk
      clear hk
      go_enter Tryd.func68, Tryd.ntmps68
      go_wp2_with fail
      refine (run_calls Lx.isLet 32 enters_letter isLetter_calls s _ _ (by omega) hs).mono ?_
      rintro e w1 ⟨rfl, hb1⟩
      rw [← hnh.out]
      have hb2 := Lib.hid (box_below (new_below hb1))
      have hcell : w1.cell? ⟨w.heap.size, 0, none⟩ = some (.string s) := by rw [box_cell (new_below hb1) 0]; simp
      clear hb1
      go_wp2_with fail
      rw [← hwh.out]
      refine (Key_calls wd _ (hL.below hb2.out)).mono ?_
      rintro e w2 ⟨rfl, hb3⟩
      have hb4 := Lib.hid (below_then hb2.out hb3 (Nat.le_refl _))
      have hcell2 : w2.cell? ⟨w.heap.size, 0, none⟩ = some (.string s) := (hb3.cell (p := ⟨w.heap.size, 0, none⟩) (World.block_lt_of_cell? _ _ hcell)).trans hcell
      rw [← hkh.out]
      clear hb3 hcell
      cases k
      · go_wp2
        refine ⟨rfl, ?_, hb4.out⟩
        rw [hTh.out, if_neg hn0, if_pos ⟨h8, by rw [← hwk.out, ← hkh.out]⟩]
        rfl
      · go_wp2
        go_ret2
        refine ⟨?_, hb4.out⟩
        rw [hTh.out, if_neg hn0, if_neg (by rw [← hwk.out, ← hkh.out]; simp)]
        refine ret_two ?_ rfl
        rw [encPiece, hwl.out]
        rfl
    · go_enter Tryd.func68, Tryd.ntmps68
      go_wp2_with fail
      refine (run_calls Lx.isLet 32 enters_letter isLetter_calls s _ _ (by omega) hs).mono ?_
      rintro e w1 ⟨rfl, hb1⟩
      rw [← hnh.out]
      have hb2 := Lib.hid (box_below (new_below hb1))
      have hcell : w1.cell? ⟨w.heap.size, 0, none⟩ = some (.string s) := by rw [box_cell (new_below hb1) 0]; simp
      clear hb1
      go_wp2
      rw [← hwh.out]
      go_ret2
      refine ⟨?_, hb2.out⟩
      rw [hTh.out, if_neg hn0, if_neg (by omega)]
      refine ret_two ?_ rfl
      rw [encPiece, hwl.out]
      rfl

theorem signs_calls (w : World) : Calls Tryd.prog 59 #[] w fun e w' =>
    e = .returned (.slice (some ⟨w.heap.size, 0, none⟩) 17 17) ∧ (∀ j, j < 17 → w'.cell? ⟨w.heap.size, j, none⟩ = some (strV (Lx.signWords.getD j []))) ∧ Below w.heap.size w w' := by
  go_enter Tryd.func59, Tryd.ntmps59
  go_wp2
  go_ret
  refine ⟨rfl, fun j hj => ?_, (Below.refl _ _).alloc (Nat.le_refl _) _⟩
  rw [World.cell?_alloc_new]
  have : ∀ j, j < 17 → (#[Value.string ⟨#[58, 61]⟩, Value.string ⟨#[43, 61]⟩, Value.string ⟨#[45, 61]⟩, Value.string ⟨#[46, 46]⟩, Value.string ⟨#[40]⟩, Value.string ⟨#[41]⟩, Value.string ⟨#[123]⟩, Value.string ⟨#[125]⟩, Value.string ⟨#[44]⟩, Value.string ⟨#[59]⟩, Value.string ⟨#[58]⟩, Value.string ⟨#[61]⟩, Value.string ⟨#[60]⟩, Value.string ⟨#[43]⟩, Value.string ⟨#[45]⟩, Value.string ⟨#[42]⟩, Value.string ⟨#[46]⟩] : Array Value)[j]? = some (strV (Lx.signWords.getD j [])) := by
    intro j hj
    match j, hj with
    | 0, _ => rfl | 1, _ => rfl | 2, _ => rfl | 3, _ => rfl | 4, _ => rfl | 5, _ => rfl | 6, _ => rfl | 7, _ => rfl | 8, _ => rfl | 9, _ => rfl | 10, _ => rfl | 11, _ => rfl | 12, _ => rfl | 13, _ => rfl | 14, _ => rfl | 15, _ => rfl | 16, _ => rfl
    | j + 17, h => omega
  exact this j hj

theorem signAt_drop (l : Lx.Bs) (i : Nat) (h : i < 17) : Lx.signAt l (Lx.signWords.drop i) = if (Lx.signWords.getD i []).isPrefixOf l then .got (.sgn (Lx.signWords.getD i [])) (Lx.signWords.getD i []).length else Lx.signAt l (Lx.signWords.drop (i + 1)) := by
  have h' : i < Lx.signWords.length := h
  rw [List.drop_eq_getElem_cons h', Lx.signAt, List.getD_eq_getElem?_getD, List.getElem?_eq_getElem h']
  rfl

theorem signed_calls (s : ByteArray) (at_ : Nat) (w : World) (hat : at_ < s.size) (hs : s.size ≤ 140737488355328) :
    Calls Tryd.prog 71 #[.agg #[.string s], .int .i64 at_] w fun e w' =>
      TriedAt at_ (Lx.signed (s.data.toList.drop at_)) e ∧ Below w.heap.size w w' := by
  obtain ⟨T, hT⟩ : ∃ T, T = Lx.signed (s.data.toList.drop at_) := ⟨_, rfl⟩
  rw [← hT]
  unfold Lx.signed at hT
  have hTh := Lib.hid hT
  clear hT
  go_enter Tryd.func71, Tryd.ntmps71
  go_wp2_with fail
  refine (signs_calls _).mono ?_
  rintro e w1 ⟨rfl, hcells, hb1⟩
  rw [World.size_alloc] at hcells ⊢
  have hb2 := Lib.hid (box_below (new_below hb1))
  have hcell : w1.cell? ⟨w.heap.size, 0, none⟩ = some (.string s) := by rw [box_cell (new_below hb1) 0]; simp
  have hch := Lib.hid hcells
  clear hb1 hcells
  go_wp2
  go_loopg [10] 17 (fun g v10 wr => ∃ i : Nat, v10 = .int .i64 i ∧ Hid (g + i = 17) ∧ Hid (T = Lx.signAt (s.data.toList.drop at_) (Lx.signWords.drop i)) ∧ wr = w1)
  case atStart => exact ⟨0, rfl, Lib.hid rfl, Lib.hid hTh.out, rfl⟩
  case round =>
    obtain ⟨i, rfl, hg, hr, rfl⟩ := hrel
    by_cases hlt : i < 17
    · have hc := hch.out i hlt
      have hstep := Lib.hid (signAt_drop (s.data.toList.drop at_) i hlt)
      obtain ⟨sg, hsg⟩ : ∃ sg, sg = Lx.signWords.getD i [] := ⟨_, rfl⟩
      rw [← hsg] at hc hstep
      have hsgh := Lib.hid hsg
      have hsl : sg.length ≤ 2 := by
        have : ∀ w ∈ Lx.signWords, w.length ≤ 2 := by decide
        rw [hsg, List.getD_eq_getElem?_getD, List.getElem?_eq_getElem (show i < Lx.signWords.length from hlt)]
        exact this _ (List.getElem_mem _)
      clear hsg
      go_wp2_with fail
      have hx : Hid (s.extract at_ s.size = ⟨(s.data.toList.drop at_).toArray⟩) := Lib.hid (by
        apply ByteArray.ext; apply Array.ext'; rw [Lib.extract_data, List.take_of_length_le (by simp)])
      rw [hx.out]
      unfold strV
      refine (Tryd.strings_HasPrefix _ _ _).mono ?_
      rintro e w2 ⟨rfl, rfl⟩
      have hpf : Lib.hasPrefix (⟨(s.data.toList.drop at_).toArray⟩ : ByteArray).data.toList (⟨sg.toArray⟩ : ByteArray).data.toList = sg.isPrefixOf (s.data.toList.drop at_) := by simp [Lib.hasPrefix]
      rw [hpf]
      have hlt2 : (i : Int) < 17 := by omega
      cases hp : sg.isPrefixOf (s.data.toList.drop at_)
      · clear hpf
        go_wp2
        go_roundg (17 - (i + 1))
        case measure => have := hg.out; omega
        case rel => exact ⟨i + 1, by go_num, Lib.hid (by omega), Lib.hid (by rw [hr.out, hstep.out, hp]; simp), rfl⟩
      · clear hpf
        have hsz : (⟨sg.toArray⟩ : ByteArray).size = sg.length := by simp [ByteArray.size]
        go_wp2
        go_ret2
        refine ⟨?_, hb2.out⟩
        rw [hr.out, hstep.out, hp, if_pos rfl]
        refine ret_two rfl ?_
        first | rfl | simp [ByteArray.size]
    · have hi : i = 17 := by have := hg.out; omega
      subst hi
      go_wp2
      go_ret2
      refine ⟨?_, hb2.out⟩
      rw [hr.out, show Lx.signWords.drop 17 = [] from rfl]
      rfl

theorem run_next_any {P : Program} (w : World) (s : ByteArray) (pos : Nat) (ty : TypeId) (h : pos < s.size) :
    (Instr.next (.pointer (some ⟨w.heap.size, 0, none⟩)) true ty).run P (w.iter s pos) =
      .ok (.tuple #[.bool true, .int .i64 pos, .int .i32 (Utf8.decode s pos).1]) (w.iter s (pos + (Utf8.decode s pos).2)) := by
  simp only [Instr.next, getObj, setObj, Sem.run_bind, Sem.run, World.iter_heap, Result.andThen, h, if_true, World.iter_set]
  simp [goInt, Sem.run, World.iter_heap, World.iter_set]

/-- The bytes of a string are of a kind. -/
theorem only_calls (p : UInt8 → Bool) (F : Nat) (hF : ∀ args w, (callFunc F args).run Tryd.prog w = .ok (.enter F args) w)
    (hp : ∀ (c : UInt8) (w : World), Calls Tryd.prog F #[.int .u8 c.toNat] w fun e w' => e = .returned (.bool (p c)) ∧ w = w')
    (hlow : ∀ c : UInt8, p c = true → c.toNat < 128)
    (s : ByteArray) (w : World) (hs : s.size ≤ 140737488355328) :
    Calls Tryd.prog 31 #[.string s, .func (.func F) #[] #[]] w fun e w' =>
      e = .returned (.bool (s.data.toList.all p)) ∧ Below w.heap.size w w' := by
  obtain ⟨T, hT⟩ : ∃ T, T = s.data.toList.all p := ⟨_, rfl⟩
  rw [← hT]
  have hTh := Lib.hid hT
  clear hT
  go_enter Tryd.func31, Tryd.ntmps31
  go_wp2
  go_loopg [5] s.size (fun g v5 wr => ∃ i : Nat, i ≤ s.size ∧ Hid (g + i = s.size) ∧ Hid (T = (s.data.toList.drop i).all p) ∧ wr = w.iter s i)
  case atStart => exact ⟨0, Nat.zero_le _, Lib.hid rfl, Lib.hid hTh.out, rfl⟩
  case round =>
    obtain ⟨i, hi, hg, hr, rfl⟩ := hrel
    by_cases hlt : i < s.size
    · have hd := Lib.hid (drop_cons s i hlt)
      cases hpc : p s[i]
      · have hnext := fun ty => run_next_any (P := Tryd.prog) w s i ty hlt
        obtain ⟨c, hc⟩ : ∃ c, c = (Utf8.decode s i).1 := ⟨_, rfl⟩
        obtain ⟨k, hk⟩ : ∃ k, k = (Utf8.decode s i).2 := ⟨_, rfl⟩
        rw [← hc, ← hk] at hnext
        clear hc hk
        go_wp2_with fail
        refine (hp s[i] _).mono ?_
        rintro e w' ⟨rfl, rfl⟩
        rw [hpc]
        go_wp2
        go_ret
        refine ⟨?_, iter_below w s _⟩
        rw [hr.out, hd.out, List.all_cons, hpc]
        rfl
      · have hnext := fun ty => run_next_ascii (P := Tryd.prog) w s i ty hlt (hlow _ hpc)
        go_wp2_with fail
        refine (hp s[i] _).mono ?_
        rintro e w' ⟨rfl, rfl⟩
        rw [hpc]
        go_wp2
        go_roundg (s.size - (i + 1))
        case measure => have := hg.out; omega
        case rel => exact ⟨i + 1, by omega, Lib.hid (by omega), Lib.hid (by rw [hr.out, hd.out, List.all_cons, hpc]; rfl), rfl⟩
    · have hend := fun ty => run_next_end (P := Tryd.prog) w s i ty hlt
      go_wp2
      go_ret
      refine ⟨?_, iter_below w s i⟩
      rw [hr.out, List.drop_of_length_le (by simp; omega)]
      rfl

theorem isLet_low (c : UInt8) (h : Lx.isLet c = true) : c.toNat < 128 := by simp [Lx.isLet] at h; omega
theorem isTxt_low (c : UInt8) (h : Lx.isTxt c = true) : c.toNat < 128 := by simp [Lx.isTxt] at h; omega

theorem Name_calls (s : ByteArray) (w : World) (hL : Laid w) (hs : s.size ≤ 140737488355328) :
    Calls Tryd.prog 11 #[.string s] w fun e w' => e = .returned (.bool (Lx.isName s.data.toList)) ∧ Below w.heap.size w w' := by
  obtain ⟨T, hT⟩ : ∃ T, T = Lx.isName s.data.toList := ⟨_, rfl⟩
  rw [← hT]
  unfold Lx.isName at hT
  rw [show s.data.toList.length = s.size by simp] at hT
  have hTh := Lib.hid hT
  clear hT
  by_cases h1 : 1 ≤ s.size
  · by_cases h8 : s.size ≤ 8
    · obtain ⟨k, hk⟩ : ∃ k, k = s.data.toList.all Lx.isLet := ⟨_, rfl⟩
      have hkh := Lib.hid hk
      obtain ⟨q, hq⟩ : ∃ q, q = Lx.isKey s.data.toList := ⟨_, rfl⟩
      have hqh := Lib.hid hq
      clear hk hq
      go_enter Tryd.func11, Tryd.ntmps11
      go_wp2_with fail
      refine (only_calls Lx.isLet 32 enters_letter isLetter_calls isLet_low s _ hs).mono ?_
      rintro e w1 ⟨rfl, hb1⟩
      rw [← hkh.out]
      have hL1 := hL.below hb1
      have hb1h := Lib.hid hb1
      clear hb1
      cases k
      · go_wp2
        go_ret
        refine ⟨?_, hb1h.out⟩
        rw [hTh.out, ← hkh.out]
        simp
      · go_wp2_with fail
        refine (keywords_calls _ hL1).mono ?_
        rintro e w2 ⟨b, rfl, hset, hb⟩
        have hlook := keySet_look hset s
        rw [← hqh.out] at hlook
        have hb2 := Lib.hid (below_then hb1h.out hb (Nat.le_refl _))
        clear hset hb
        go_wp2
        go_ret
        refine ⟨?_, hb2.out⟩
        rw [hTh.out, ← hkh.out, ← hqh.out]
        simp [h1, h8]
    · go_enter Tryd.func11, Tryd.ntmps11
      go_wp2
      go_ret
      refine ⟨?_, Below.refl _ _⟩
      rw [hTh.out]
      simp [h8]
  · go_enter Tryd.func11, Tryd.ntmps11
    go_wp2
    go_ret
    refine ⟨?_, Below.refl _ _⟩
    rw [hTh.out]
    simp [h1]
end Go.Proofs.YtkijoeihkajlcaaDoor
