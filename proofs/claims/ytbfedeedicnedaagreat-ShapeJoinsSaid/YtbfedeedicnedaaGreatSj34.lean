/-
  Texts of this claim: ShDg, KitRF, ShCA.
-/
import Derived.Test.YtbfedeedicnedaaGreatSj22
import Derived.RangeFuncNested
import Derived.RangeFuncBound
import Derived.RangeFuncCalls
import Derived.RangeFuncLeaves
import Derived.RangeFuncOwn
import Derived.Shelf.Spec.TrailingZeros
set_option linter.unusedVariables false
set_option linter.unusedSimpArgs false
set_option maxHeartbeats 8000000
set_option maxRecDepth 100000
section
namespace Go.Proofs.YtbfedeedicnedaaGreat.Sh
theorem and_half (a b : Nat) : (a &&& b) / 2 = (a / 2) &&& (b / 2) := by
  apply Nat.eq_of_testBit_eq
  intro i
  rw [← Nat.testBit_succ, Nat.testBit_and, Nat.testBit_and, ← Nat.testBit_succ, ← Nat.testBit_succ]
theorem and_two (a b : Nat) : (a &&& b) % 2 = (a % 2) * (b % 2) := by
  have h : (a &&& b).testBit 0 = (a.testBit 0 && b.testBit 0) := Nat.testBit_and _ _ _
  rw [Nat.testBit_zero, Nat.testBit_zero, Nat.testBit_zero] at h
  have h3 := Nat.mod_two_eq_zero_or_one (a &&& b)
  rcases Nat.mod_two_eq_zero_or_one a with ha | ha <;> rcases Nat.mod_two_eq_zero_or_one b with hb | hb <;> rcases h3 with h3 | h3 <;> rw [ha, hb, h3] at h ⊢ <;> simp at h
theorem ones_len_succ (w b : Nat) : (ones w (b + 1)).length = w % 2 + (ones (w / 2) b).length := by
  unfold ones
  rw [List.length_map, List.length_map, List.range_succ_eq_map, List.filter_cons]
  have h : ((List.map Nat.succ (List.range b)).filter fun i => w.testBit i).length = ((List.range b).filter fun i => (w / 2).testBit i).length := by
    rw [List.filter_map, List.length_map]
    congr 1
    apply List.filter_congr
    intro i _
    show w.testBit (i + 1) = _
    rw [Nat.testBit_succ]
  rcases Nat.mod_two_eq_zero_or_one w with h0 | h0
  · rw [if_neg (by simp [Nat.testBit_zero, h0]), h, h0]; omega
  · rw [if_pos (by simp [Nat.testBit_zero, h0]), List.length_cons, h, h0]; omega
theorem ones_drop : ∀ (b w : Nat), w ≠ 0 → w < 2 ^ b → (ones (w &&& (w - 1)) b).length + 1 = (ones w b).length := by
  intro b
  induction b with
  | zero => intro w h0 h; simp at h; omega
  | succ b ih =>
    intro w h0 h
    rw [ones_len_succ, ones_len_succ, and_half, and_two]
    rcases Nat.mod_two_eq_zero_or_one w with hw | hw
    · have e : (w - 1) / 2 = w / 2 - 1 := by omega
      rw [e, hw, Nat.zero_mul]
      have := ih (w / 2) (by omega) (by rw [Nat.pow_succ] at h; omega)
      omega
    · have e : (w - 1) / 2 = w / 2 := by omega
      have e2 : (w - 1) % 2 = 0 := by omega
      rw [e, e2, hw, Nat.and_self]
      omega
theorem ones_zero (b : Nat) : (ones 0 b).length = 0 := by
  unfold ones
  simp
theorem ones_le (w b : Nat) : (ones w b).length ≤ b := by
  unfold ones
  rw [List.length_map]
  have := List.length_filter_le (fun i => w.testBit i) (List.range b)
  rw [List.length_range] at this
  exact this
end Go.Proofs.YtbfedeedicnedaaGreat.Sh
end
section
namespace Go.Proofs.YtbfedeedicnedaaGreat
open Go.RowKit
theorem uponIn_of_upon {l n : Nat} {P : Program} {o : Oper} {a : Act} {next : Act → World → Prop} {Q : Exit → Act → World → Prop} (hQ : ∀ a w, ¬ Q .outgrown a w) {r : Result Next} (h : o.upon P a next Q r) :
    o.uponIn (Fence.wide.inRound l) n P a next Q r := by
  have hlo : ¬ LetsOut Q := fun ⟨a, w, h⟩ => hQ a w h
  cases r with
  | ok x w' =>
    cases x <;> first
    | exact h
    | exact h.elim
    | (refine ⟨fun h => by simp [Fence.wide] at h, ?_⟩
       exact (callsIn_wide (n := n - 1)).2 h)
    | (refine ⟨fun h => by simp [Fence.wide] at h, ?_⟩
       intro c cs _
       obtain ⟨v, w1, h1, h2⟩ := h c cs
       exact ⟨v, w1, h1, stepsIn_wide.2 h2⟩)
  | halt x w' => cases x <;> first | exact h | exact h.elim
theorem wpOpsIn_of_wpOps {l n : Nat} {P : Program} {ops : Array Oper} {Q : Exit → Act → World → Prop} (hQ : ∀ a w, ¬ Q .outgrown a w) (hnd : ∀ (i : Nat) (o : Oper), ops[i]? = some o → ∀ c, o.op ≠ .defer c) :
    ∀ (s : List Nat) (a : Act) (w : World), wpOps P ops Q s a w → wpOpsIn (Fence.wide.inRound l) n P ops Q s a w
  | [], a, w, h => h
  | i :: s, a, w, h => by
    simp only [wpOps, wpOpsIn] at *
    cases ho : ops[i]? with
    | none => rw [ho] at h; exact wpOpsIn_of_wpOps hQ hnd s a w h
    | some o =>
      rw [ho] at h
      simp only at h ⊢
      by_cases hw : Region.wanted o (yielded ops a.tmps) = true
      · rw [if_pos hw] at h ⊢
        rcases h with h | ⟨_, a', w', h⟩
        · refine ⟨fun _ _ => trivial, ?_⟩
          rw [show (Fence.wide.inRound l).round = some l from rfl, Oper.semAt_some l _ o (hnd i o ho)]
          refine uponIn_of_upon hQ ?_
          have h' : o.upon P a (wpOps P ops Q s) Q ((execOp a.eval o).run P w) := h
          exact Oper.wp_mono (o := o) (P := P) (Q := Q) (a := a) (w := w) (fun a w => wpOpsIn_of_wpOps hQ hnd s a w) h'
        · exact (hQ _ _ h).elim
      · rw [if_neg hw] at h ⊢
        exact ⟨fun _ _ => trivial, wpOpsIn_of_wpOps hQ hnd s _ w h⟩
structure KeepI (Ic : Nat → Prop) (W W' : World) : Prop where
  size : W.heap.size ≤ W'.heap.size
  own : ∀ k, Ic k → W'.heap[k]? = W.heap[k]?
theorem KeepI.refl {Ic : Nat → Prop} (W : World) : KeepI Ic W W := ⟨Nat.le_refl _, fun _ _ => rfl⟩
theorem KeepI.trans {Ic : Nat → Prop} {A B C : World} (h : KeepI Ic A B) (k : KeepI Ic B C) : KeepI Ic A C := ⟨Nat.le_trans h.size k.size, fun j hj => (k.own j hj).trans (h.own j hj)⟩
theorem KeepI.putObj {Ic : Nat → Prop} (W : World) (r : Nat) (o : Obj) (h : ¬ Ic r) : KeepI Ic W (W.putObj r o) := ⟨by simp, fun k hk => World.putObj_heap_other (fun e => h (e ▸ hk))⟩
theorem KeepI.imp {Ic Ic' : Nat → Prop} {A B : World} (h : KeepI Ic A B) (hi : ∀ k, Ic' k → Ic k) : KeepI Ic' A B := ⟨h.size, fun k hk => h.own k (hi k hk)⟩
def Iter {α : Type} (P : Program) (gf : Nat) (lb : Array Value) (encs : α → Array Value) (Wok : World → Prop) (Ic : World → Nat → Prop) (St : World → World → World → Prop) (More : List α → α → Prop) (Full : List α → Prop) (Fell : List PanicEntry → List α → Prop) : Prop :=
  ∀ (l : Nat) (J Jx : List α → World → Prop) (W0 : World), Wok W0 → (∀ p W W', J p W → St W0 W W' → J p W') → (∀ p W W', Jx p W → St W0 W W' → Jx p W') →
    (∀ pre x W, J pre W → More pre x → W0.heap.size ≤ W.heap.size → (∀ k, Ic W0 k → k < W.heap.size) → YieldAt Fence.wide 1 P l (encs x) W fun e W' => (e = .returned (.bool true) ∧ J (pre ++ [x]) W' ∧ KeepI (Ic W0) W W') ∨ (e = .returned (.bool false) ∧ Jx (pre ++ [x]) W' ∧ KeepI (Ic W0) W W')) →
    J [] W0 →
    Calls P gf (#[.func (.yield l) #[] #[]] ++ lb) W0 fun e W' => (∃ v, e = .returned v ∧ ((∃ xs, Full xs ∧ J xs W') ∨ (∃ pre, Jx pre W'))) ∨ (∃ c xs, e = .panicked c ∧ Fell c xs ∧ J xs W')
def bodyPost1 {α : Type} (Ic : Nat → Prop) (D : Nat) (I : List α → World → Prop) (Ix : Code → List α → World → Prop) (W : World) (p : List α) : Exit → Act → World → Prop
  | .normal, _, W' => KeepI (fun k => Ic k ∨ k = D ∨ k = D + 1) W W' ∧ I p W'
  | .ret, _, W' => KeepI (fun k => Ic k ∨ k = D ∨ k = D + 1) W W' ∧ Ix .ret p W'
  | .exit id, _, W' => KeepI (fun k => Ic k ∨ k = D ∨ k = D + 1) W W' ∧ Ix (.exit id) p W'
  | .goto t, _, W' => KeepI (fun k => Ic k ∨ k = D ∨ k = D + 1) W W' ∧ Ix (.goto t) p W'
  | .panic _, _, _ => False
  | .outgrown, _, _ => False
theorem rf_law {α : Type} {P : Program} {g : Operand} {ps : Array Tmp} {assign body : Code} {Q : Exit → Act → World → Prop} {a : Act} {w : World}
    {gf : Nat} {lb : Array Value} (hg : a.eval g = .func (.func gf) #[] lb) (eg : ∀ args w, (callFunc gf args).run P w = .ok (.enter gf args) w)
    {encs : α → Array Value} {Wok : World → Prop} {Ic : World → Nat → Prop} {St : World → World → World → Prop} {More : List α → α → Prop} {Full : List α → Prop} {Fell : List PanicEntry → List α → Prop}
    (hit : Iter P gf lb encs Wok Ic St More Full Fell) (hps : ∀ x, (encs x).size = ps.size)
    (hWok : ∀ W, Below w.heap.size w W → W.heap.size = w.heap.size + 2 → Wok W)
    (hIc : ∀ W k, W.heap.size = w.heap.size + 2 → Ic W k → k ≠ w.heap.size ∧ k ≠ w.heap.size + 1)
    (hSt : ∀ W0 W W', W0.heap.size = w.heap.size + 2 → w.heap.size + 2 ≤ W.heap.size → St W0 W W' → ∀ k, k < w.heap.size + 2 → W'.heap[k]? = W.heap[k]?)
    (I : List α → World → Prop) (Ix : Code → List α → World → Prop) (Ax : α → Act → World → Prop)
    (hIst : ∀ p W0 W W', W0.heap.size = w.heap.size + 2 → I p W → St W0 W W' → I p W') (hIxst : ∀ c p W0 W W', W0.heap.size = w.heap.size + 2 → Ix c p W → St W0 W W' → Ix c p W')
    (hIp : ∀ p W (o : Obj), I p W → I p (W.putObj (w.heap.size + 1) o)) (hIxp : ∀ c p W (o : Obj), Ix c p W → Ix c p (W.putObj (w.heap.size + 1) o)) (hAp : ∀ x a W (o : Obj), Ax x a W → Ax x a (W.putObj (w.heap.size + 1) o))
    (h0 : ∀ W, Below w.heap.size w W → W.heap.size = w.heap.size + 2 → I [] W)
    (hassign : ∀ (pre : List α) (x : α) (W : World) (K : Act → World → Prop), I pre W → More pre x → w.heap.size + 2 ≤ W.heap.size →
      (∀ a' W', Ax x a' W' → I pre W' → KeepI (fun k => k < W.heap.size) W W' → K a' W') →
      assign.wpIn (Fence.wide.inRound (w.heap.size + 1)) 1 P (Exit.then K (fun _ _ _ => False)) { tmps := (ps.zip (encs x)).foldl (fun t (p, v) => t.setIfInBounds p v) a.tmps, defers := [] } W)
    (hbody : ∀ (W0 : World) (pre : List α) (x : α) (a' : Act) (W : World), W0.heap.size = w.heap.size + 2 → w.heap.size + 2 ≤ W.heap.size → (∀ k, Ic W0 k → k < W.heap.size) → I pre W → Ax x a' W → More pre x → body.wpIn (Fence.wide.inRound (w.heap.size + 1)) 1 P (bodyPost1 (Ic W0) w.heap.size I Ix W (pre ++ [x])) a' W)
    (hdone : ∀ (xs : List α) (W : World), Full xs → I xs W → W.heap[w.heap.size]? = some (.deferred (some [])) → Q .normal { a with defers := { target := .collected w.heap.size, args := #[] } :: a.defers } W)
    (hstop : ∀ (c : Code) (pre : List α) (W : World), Ix c pre W → W.heap[w.heap.size]? = some (.deferred (some [])) → c.wpIn Fence.wide 3 P Q { a with defers := { target := .collected w.heap.size, args := #[] } :: a.defers } W)
    (hfell : ∀ (chain : List PanicEntry) (xs : List α) (W : World), Fell chain xs → I xs W → W.heap[w.heap.size]? = some (.deferred (some [])) → Q (.panic chain) { a with defers := { target := .collected w.heap.size, args := #[] } :: a.defers } W) :
    (Code.rangeFunc g ps assign body).wpIn Fence.wide 3 P Q a w := by
  refine wpIn_rangeFunc ?_
  intro fn _
  obtain ⟨rec, hrec⟩ : ∃ rec : LoopState → Option Code → Loop, rec = fun st pe => { state := st, pending := pe, fn, tmps := a.tmps, params := ps, assign, body, defers := w.heap.size } := ⟨_, rfl⟩
  obtain ⟨W1, hW1⟩ : ∃ W1, (w.alloc (.deferred (some []))).alloc (.loop (rec .ready none)) = W1 := ⟨_, rfl⟩
  have hs1 : W1.heap.size = w.heap.size + 2 := by rw [← hW1]; simp
  have hL1 : W1.heap[w.heap.size + 1]? = some (.loop (rec .ready none)) := by
    rw [← hW1]; have := World.alloc_heap_new (w.alloc (.deferred (some []))) (.loop (rec .ready none)); rwa [World.size_alloc] at this
  have hK1 : W1.heap[w.heap.size]? = some (.deferred (some [])) := by
    rw [← hW1]; exact (Below.heap_alloc _ _ _ (by simp)).trans (World.alloc_heap_new w _)
  have hb1 : Below w.heap.size w W1 := by
    rw [← hW1]; exact ((Below.refl _ w).alloc (Nat.le_refl _) _).alloc (by simp) _
  refine ⟨w.heap.size + 1, [{ target := .collected w.heap.size, args := #[] }], W1, { target := .fn (.func gf) lb, args := #[.func (.yield (w.heap.size + 1)) #[] #[]] }, W1, gf,
    #[.func (.yield (w.heap.size + 1)) #[] #[]] ++ lb, W1, ?_, ?_, fun _ _ => trivial, ?_, fun _ => by omega, ?_⟩
  · rw [← hW1, hrec]; exact run_enterLoop_outer _ _ _ _ _
  · simp only [resolve, hg]
    simp [go_sem]
  · simp [invoke, go_sem, eg]
  · refine callsIn_wide.2 ((hit (w.heap.size + 1)
      (fun p W => I p W ∧ W.heap[w.heap.size + 1]? = some (.loop (rec .ready none)) ∧ W.heap[w.heap.size]? = some (.deferred (some [])))
      (fun p W => ∃ c, Ix c p W ∧ W.heap[w.heap.size + 1]? = some (.loop (rec .done (some c))) ∧ W.heap[w.heap.size]? = some (.deferred (some [])))
      W1 (hWok _ hb1 hs1)
      (fun p A B hs hst => ⟨hIst p W1 A B hs1 hs.1 hst, (hSt _ _ _ hs1 (Array.getElem?_eq_some_iff.1 hs.2.1).1 hst _ (by omega)).trans hs.2.1, (hSt _ _ _ hs1 (Array.getElem?_eq_some_iff.1 hs.2.1).1 hst _ (by omega)).trans hs.2.2⟩)
      (fun p A B hs hst => by
        obtain ⟨c, hc, hl, hk⟩ := hs
        exact ⟨c, hIxst c p W1 A B hs1 hc hst, (hSt _ _ _ hs1 (Array.getElem?_eq_some_iff.1 hl).1 hst _ (by omega)).trans hl, (hSt _ _ _ hs1 (Array.getElem?_eq_some_iff.1 hl).1 hst _ (by omega)).trans hk⟩)
      ?_ ⟨h0 _ hb1 hs1, hL1, hK1⟩).mono ?_)
    · rintro pre x W ⟨hi, hl, hk⟩ hmore hsz hIcs
      rw [hs1] at hsz
      have hy := run_yield (P := P) (args := encs x) hl (by rw [hrec]; simp [hps])
      rw [hrec] at hy
      refine ⟨fn, _, assign, body, hy, roundIn_of_wpIn (F := Fence.wide) trivial (hassign pre x W _ hi hmore hsz ?_)⟩
      intro a' W' hax hi' hkeep
      have hl' : W'.heap[w.heap.size + 1]? = some (.loop (rec .ready none)) := (hkeep.own _ (by show w.heap.size + 1 < W.heap.size; omega)).trans hl
      have hk' : W'.heap[w.heap.size]? = some (.deferred (some [])) := (hkeep.own _ (by show w.heap.size < W.heap.size; omega)).trans hk
      have hsz' : w.heap.size + 2 ≤ W'.heap.size := Nat.le_trans hsz hkeep.size
      refine ⟨_, run_beginRound hl' (by rw [hrec]), ?_⟩
      have hlt : w.heap.size + 1 < W'.heap.size := by omega
      have hl2 : (W'.putObj (w.heap.size + 1) (.loop { rec .ready none with state := .busy })).heap[w.heap.size + 1]? = some (.loop { rec .ready none with state := .busy }) := World.putObj_heap_same hlt
      have hk2 : (W'.putObj (w.heap.size + 1) (.loop { rec .ready none with state := .busy })).heap[w.heap.size]? = some (.deferred (some [])) := (World.putObj_heap_other (by omega)).trans hk'
      refine wpIn_mono (hbody W1 pre x a' _ hs1 (by simpa using hsz') (fun k hk => by simpa using Nat.lt_of_lt_of_le (hIcs k hk) hkeep.size) (hIp _ _ _ hi') (hAp _ _ _ _ hax) hmore) ?_
      have hIn : ¬ Ic W1 (w.heap.size + 1) := fun h => (hIc W1 _ hs1 h).2 rfl
      have hIlt : ∀ k, Ic W1 k → k < W.heap.size → W'.heap[k]? = W.heap[k]? := fun k _ h => hkeep.own k h
      have fin : ∀ (jump : Option Code) (W3 : World), KeepI (fun k => Ic W1 k ∨ k = w.heap.size ∨ k = w.heap.size + 1) (W'.putObj (w.heap.size + 1) (.loop { rec .ready none with state := .busy })) W3 →
          (Instr.endRound (w.heap.size + 1) jump).run P W3 = .ok (.bool jump.isNone) (W3.putObj (w.heap.size + 1) (.loop (rec (if jump.isNone then .ready else .done) jump))) ∧
          (W3.putObj (w.heap.size + 1) (.loop (rec (if jump.isNone then .ready else .done) jump))).heap[w.heap.size + 1]? = some (.loop (rec (if jump.isNone then .ready else .done) jump)) ∧
          (W3.putObj (w.heap.size + 1) (.loop (rec (if jump.isNone then .ready else .done) jump))).heap[w.heap.size]? = some (.deferred (some [])) ∧
          KeepI (Ic W1) W' (W3.putObj (w.heap.size + 1) (.loop (rec (if jump.isNone then .ready else .done) jump))) := fun jump W3 hk3 => by
        have hl3 := (hk3.own _ (.inr (.inr rfl))).trans hl2
        have := run_endRound (P := P) jump hl3
        rw [hrec] at this ⊢
        refine ⟨this, World.putObj_heap_same (Array.getElem?_eq_some_iff.1 hl3).1, (World.putObj_heap_other (by omega)).trans ((hk3.own _ (.inr (.inl rfl))).trans hk2), ?_⟩
        exact ((KeepI.putObj W' _ _ hIn).trans (hk3.imp (fun k hk => .inl hk))).trans (KeepI.putObj W3 _ _ hIn)
      have hk1 : KeepI (Ic W1) W W' := hkeep.imp hIcs
      rintro e a3 W3 hp
      cases e with
      | normal =>
        obtain ⟨hk3, hi3⟩ := hp
        obtain ⟨hr, hl4, hk4, hkp⟩ := fin none W3 hk3
        exact ⟨_, _, hr, .inl ⟨rfl, ⟨hIp _ _ _ hi3, hl4, hk4⟩, hk1.trans hkp⟩⟩
      | ret =>
        obtain ⟨hk3, hi3⟩ := hp
        obtain ⟨hr, hl4, hk4, hkp⟩ := fin (some .ret) W3 hk3
        exact ⟨_, _, hr, .inr ⟨rfl, ⟨.ret, hIxp _ _ _ _ hi3, hl4, hk4⟩, hk1.trans hkp⟩⟩
      | exit id =>
        obtain ⟨hk3, hi3⟩ := hp
        obtain ⟨hr, hl4, hk4, hkp⟩ := fin (some (.exit id)) W3 hk3
        exact ⟨_, _, hr, .inr ⟨rfl, ⟨.exit id, hIxp _ _ _ _ hi3, hl4, hk4⟩, hk1.trans hkp⟩⟩
      | goto t =>
        obtain ⟨hk3, hi3⟩ := hp
        obtain ⟨hr, hl4, hk4, hkp⟩ := fin (some (.goto t)) W3 hk3
        exact ⟨_, _, hr, .inr ⟨rfl, ⟨.goto t, hIxp _ _ _ _ hi3, hl4, hk4⟩, hk1.trans hkp⟩⟩
      | panic ch => exact hp.elim
      | outgrown => exact hp.elim
    · rintro e W2 (⟨v, rfl, ⟨xs, hfull, hi, hl, hk⟩ | ⟨pre, c, hi, hl, hk⟩⟩ | ⟨c, xs, rfl, hfell', hi, hl, hk⟩)
      · exact ⟨none, _, by have := run_endLoop (P := P) hl (by rw [hrec]; simp); rw [hrec] at this; exact this, hdone xs _ hfull (hIp _ _ _ hi) ((World.putObj_heap_other (by omega)).trans hk)⟩
      · exact ⟨some c, _, by have := run_endLoop (P := P) hl (by rw [hrec]; simp); rw [hrec] at this; exact this, hstop c pre _ (hIxp _ _ _ _ hi) ((World.putObj_heap_other (by omega)).trans hk)⟩
      · exact hfell c xs _ hfell' hi hk
end Go.Proofs.YtbfedeedicnedaaGreat
end
section
namespace Go.Proofs.YtbfedeedicnedaaGreat
open Go.RowKit
open Go.Proofs.YtbfedeedicnedaaGreatW.PrintWords
def TabOk (w : World) : Prop := ∀ i, i < 64 → ∃ k : Nat, k < 256 ∧ w.cell? ⟨0, i, none⟩ = some (.int .u8 k)
theorem TabOk.below {B : Nat} {w w' : World} (h : TabOk w) (hb : Below B w w') (hB : 0 < B) : TabOk w' := by
  intro i hi
  obtain ⟨k, hk, hc⟩ := h i hi
  exact ⟨k, hk, (hb.cell (p := ⟨0, i, none⟩) hB).trans hc⟩
theorem TabOk.pos {w : World} (h : TabOk w) : 0 < w.heap.size := by
  obtain ⟨k, _, hc⟩ := h 0 (by omega)
  exact World.block_lt_of_cell? _ _ hc
theorem tz_calls (x : Nat) (hx : x < 18446744073709551616) (hx0 : x ≠ 0) (w : World) (hT : TabOk w) :
    Calls Tryz.prog 175 #[.int .u64 x] w fun e w' => (∃ k : Nat, k < 256 ∧ e = .returned (.int .i64 k)) ∧ w' = w := by
  obtain ⟨a, ha⟩ : ∃ a, x &&& (18446744073709551616 - x) = a := ⟨_, rfl⟩
  have key := tz64_key x a hx hx0 ha
  obtain ⟨idx, hidx⟩ : ∃ i, i = a * 285870213051353865 % 18446744073709551616 / 288230376151711744 := ⟨_, rfl⟩
  have hi : idx < 64 := by omega
  rw [← hidx] at key
  obtain ⟨k, hk, hc⟩ := hT idx hi
  have hx0' : ((x : Int) == 0) = false := by simp; omega
  clear hidx ha hT
  go_enter Tryz.func175, Tryz.ntmps175
  go_wp2_with (simp only [key])
  go_ret
  exact ⟨⟨k, hk, rfl⟩, rfl⟩
theorem digits_calls (n : Int) (w : World) :
    Calls Tryz.prog 172 #[.int .i64 n] w fun e w' => e = .returned (.func (.func 174) #[] #[.pointer (some ⟨w.heap.size, 0, none⟩)]) ∧ w' = w.alloc (.cells #[.int .i64 n] 3) := by
  have hmf : ∀ (fn : Fn) (first cap : Array Value) (w : World), (Instr.makeFunc fn first cap).run Tryz.prog w = .ok (.func fn first cap) w := fun _ _ _ _ => rfl
  go_enter Tryz.func172, Tryz.ntmps172
  go_wp2
  go_ret
  exact ⟨rfl, rfl⟩
def encD (x : Int) : Array Value := #[.int .i64 x]
def Dig (x : Int) : Prop := 0 ≤ x ∧ x ≤ 255
theorem cell_of_heap {w w' : World} {b : Nat} (h : w'.heap[b]? = w.heap[b]?) (i : Nat) : w'.cell? ⟨b, i, none⟩ = w.cell? ⟨b, i, none⟩ := by
  unfold World.cell?
  simp only [h]
theorem digits_iter (n b bs : Nat) (hb63 : b ≤ 62) (hn : n < 2 ^ b) :
    Iter Tryz.prog 174 #[.pointer (some ⟨bs, 0, none⟩)] encD
      (fun W => W.cell? ⟨bs, 0, none⟩ = some (.int .i64 n) ∧ TabOk W) (fun W k => k = bs ∨ k = 0) (fun _ W W' => Below W.heap.size W W')
      (fun pre x => pre.length < (Sh.ones n b).length ∧ Dig x) (fun xs => xs.length = (Sh.ones n b).length) (fun _ _ => False) := by
  intro l J Jx W0 ⟨hcs, htab⟩ hJ hJx hY h0
  simp only [List.append_toArray, List.cons_append, List.nil_append]
  have hbs : bs < W0.heap.size := World.block_lt_of_cell? _ _ hcs
  have hJh := Lib.hid hJ
  have hYh := Lib.hid hY
  have hJ0 := Lib.hid h0
  have hnn : n < 9223372036854775808 := by
    have : (2 : Nat) ^ b ≤ 2 ^ 62 := Nat.pow_le_pow_right (by omega) hb63
    omega
  have hnh := Lib.hid hn
  clear hJ hY h0 hJx hn
  go_enter Tryz.func174, Tryz.ntmps174
  go_wp2
  go_loopg [3] (Sh.ones n b).length (fun g v3 wr => ∃ (r : Nat) (pre : List Int), v3 = .int .u64 r ∧ r < 18446744073709551616 ∧ Hid (r < 2 ^ b) ∧ Hid ((Sh.ones r b).length + pre.length = (Sh.ones n b).length ∧ g = (Sh.ones r b).length) ∧ Hid (W0.heap.size ≤ wr.heap.size ∧ TabOk wr) ∧ Hid (J pre wr))
  case atStart => exact ⟨n, [], rfl, by omega, hnh, Lib.hid ⟨by simp, rfl⟩, Lib.hid ⟨Nat.le_refl _, htab⟩, hJ0⟩
  case round =>
    obtain ⟨r, pre, rfl, hr, hrb, hcnt, hW, hJp⟩ := hrel
    by_cases hr0 : r = 0
    · have hz : ((r : Int) != 0) = false := by simp [hr0]
      have hfull : Hid (pre.length = (Sh.ones n b).length) := Lib.hid (by have := hcnt.out.1; rw [hr0, Sh.ones_zero] at this; omega)
      clear hr0
      go_wp2
      go_end0
      exact .inl ⟨_, rfl, .inl ⟨pre, hfull.out, hJp.out⟩⟩
    · have hz : ((r : Int) != 0) = true := by simp [hr0]
      have hdrop := Lib.hid (Sh.ones_drop b r hr0 hrb.out)
      have htz := Lib.hid (tz_calls r hr hr0 wr hW.out.2)
      have hdig : ∀ k : Nat, k < 256 → Dig k := fun k hk => ⟨by omega, by omega⟩
      have hyf := Lib.hid (fun (k : Nat) (hk : k < 256) => hYh.out pre (k : Int) wr hJp.out ⟨by have := hcnt.out.1; have := hdrop.out; omega, hdig k hk⟩ hW.out.1 (by
        have h1 := hW.out.1
        rintro j (rfl | rfl) <;> omega))
      clear hdig
      go_upto_region 3 with (fail)
      refine (wpIn_wide (n := 2)).1 ?_
      gi_wp2
      refine ⟨by simp [Fence.wide], callsIn_wide.2 (htz.out.mono ?_)⟩
      rintro e w' ⟨⟨k, hk, rfl⟩, rfl⟩
      obtain ⟨fn, tm, asg, bdy, hyr, hR⟩ := hyf.out k hk
      dsimp only [encD] at hyr
      clear hyf htz
      gi_wp2
      refine hR.mono ?_
      rintro e w4 (⟨rfl, hJ4, hk4⟩ | ⟨rfl, hJ4, hk4⟩)
      · have hW4 := Lib.hid (show W0.heap.size ≤ w4.heap.size ∧ TabOk w4 from ⟨Nat.le_trans hW.out.1 hk4.size, fun i hi => by
          obtain ⟨q, hq, hc⟩ := hW.out.2 i hi
          refine ⟨q, hq, ?_⟩
          rw [← hc]
          exact cell_of_heap (hk4.own 0 (.inr rfl)) i⟩)
        replace hJ4 := Lib.hid hJ4
        clear hk4
        gi_wp2
        go_wp2
        go_roundg (Sh.ones (r &&& (r - 1)) b).length
        case measure => have := hcnt.out.2; have := hdrop.out; omega
        case rel =>
          exact ⟨r &&& (r - 1), pre ++ [(k : Int)], (by rw [show ((r : Int) - 1) = ((r - 1 : Nat) : Int) by omega, bits_and_u64_nat r (r - 1) hr (by omega)]), Nat.lt_of_le_of_lt Nat.and_le_left hr, Lib.hid (Nat.lt_of_le_of_lt Nat.and_le_left hrb.out), Lib.hid ⟨by have := hcnt.out.1; have := hdrop.out; simp; omega, rfl⟩, hW4, hJ4.out⟩
      · replace hJ4 := Lib.hid hJ4
        clear hk4
        gi_wp2
        go_wp2
        exact bodyPost_ret (results_none rfl _ _ _) rfl (.inl ⟨_, rfl, .inr ⟨_, hJ4.out⟩⟩)
end Go.Proofs.YtbfedeedicnedaaGreat
end
