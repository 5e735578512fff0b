/-
  Contract of package lex's read.
-/
import Derived.Test.YtkijoeihkajlcaaDoorMa
import Derived.WideLaws
import Derived.Laws.EntriesVeiled
import Derived.Sort.LoopGhostIn
import Derived.OwnWalkIn
import Derived.TacticsInMore
import Derived.Deep.CutBlock
import Derived.Deep.DeepCutAuto
import Derived.Test.YtkijoeihkajlcaaDoorWWords
import Derived.Defers
import Derived.Recover
import Derived.RecoverIn
import Derived.Laws.Pointers
import Derived.RegionTactic
import Derived.StillTail
import Derived.OrdersHeld

set_option linter.unusedVariables false
set_option linter.unusedSimpArgs false
namespace Go.Proofs.YtkijoeihkajlcaaDoor
open Go.RowKit Go.Shelf

/-- What the iterator hands on. -/
def encAt (x : Nat × Lx.Piece) : Array Value := #[.int .i64 x.1, encPiece x.2]
def fnV (k : Nat) : Value := .func (.func k) #[] #[]
def fnNo : Nat → Nat
  | 0 => 68
  | 1 => 69
  | 2 => 70
  | _ => 71
def tryN (l : Lx.Bs) : Nat → Lx.Tried
  | 0 => Lx.letters l
  | 1 => Lx.digits l
  | 2 => Lx.quoted l
  | _ => Lx.signed l
def triedFrom (l : Lx.Bs) : Nat → Lx.Tried
  | 0 => Lx.tried l
  | 1 => Lx.orElse (Lx.digits l) (Lx.orElse (Lx.quoted l) (Lx.signed l))
  | 2 => Lx.orElse (Lx.quoted l) (Lx.signed l)
  | 3 => Lx.signed l
  | _ => .none
theorem orElse_none (t : Lx.Tried) : Lx.orElse t .none = t := by cases t <;> rfl
theorem triedFrom_step (l : Lx.Bs) (j : Nat) (h : j < 4) : triedFrom l j = Lx.orElse (tryN l j) (triedFrom l (j + 1)) := by
  match j, h with
  | 0, _ => rfl
  | 1, _ => rfl
  | 2, _ => rfl
  | 3, _ => exact (orElse_none _).symm

theorem try_calls (j : Nat) (hj : j < 4) (s : ByteArray) (at_ : Nat) (w : World) (hL : Laid w) (hat : at_ < s.size) (hs : s.size ≤ 140737488355328) :
    Calls Tryd.prog (fnNo j) #[.agg #[.string s], .int .i64 at_] w fun e w' => TriedAt at_ (tryN (s.data.toList.drop at_) j) e ∧ Below w.heap.size w w' := by
  match j, hj with
  | 0, _ => exact letters_calls s at_ w hL hat hs
  | 1, _ => exact digits_calls s at_ w hat hs
  | 2, _ => exact quoted_calls s at_ w hat hs
  | 3, _ => exact signed_calls s at_ w hat hs
theorem enters_try (j : Nat) (hj : j < 4) (args : Array Value) (w : World) : (callFunc (fnNo j) args).run Tryd.prog w = .ok (.enter (fnNo j) args) w := by
  match j, hj with
  | 0, _ => exact enters_of Tryd.func68 (by kernel_rfl) rfl args w
  | 1, _ => exact enters_of Tryd.func69 (by kernel_rfl) rfl args w
  | 2, _ => exact enters_of Tryd.func70 (by kernel_rfl) rfl args w
  | 3, _ => exact enters_of Tryd.func71 (by kernel_rfl) rfl args w
def triesA : Array Value := #[fnV (fnNo 0), fnV (fnNo 1), fnV (fnNo 2), fnV (fnNo 3)]
theorem index_try (j : Nat) (hj : j < 4) (w : World) : (Instr.index 95 (.agg triesA) (.int .i64 j)).run Tryd.prog w = .ok (fnV (fnNo j)) w := by
  match j, hj with
  | 0, _ => (show _ = _; kernel_rfl)
  | 1, _ => (show _ = _; kernel_rfl)
  | 2, _ => (show _ = _; kernel_rfl)
  | 3, _ => (show _ = _; kernel_rfl)
theorem piece_iface (p : Lx.Piece) : ∃ T v, encPiece p = .iface T v := by cases p <;> exact ⟨_, _, rfl⟩

theorem hiPiece : Tryd.prog.underlying 69 = some (.interface (Tryd.prog.methodsAt 69)) := by kernel_rfl
theorem neq_nil_nil (w : World) : (binOp .neq 69 .nilIface .nilIface).run Tryd.prog w = .ok (.bool false) w := run_neq_nil_nil _ _ hiPiece
theorem eql_nil_nil (w : World) : (binOp .eql 69 .nilIface .nilIface).run Tryd.prog w = .ok (.bool true) w := run_eql_nil_nil _ _ hiPiece
theorem neq_held_nil (T : TypeId) (v : Value) (w : World) : (binOp .neq 69 (.iface T v) .nilIface).run Tryd.prog w = .ok (.bool true) w := run_neq_held_nil _ _ T v hiPiece
theorem eql_held_nil (T : TypeId) (v : Value) (w : World) : (binOp .eql 69 (.iface T v) .nilIface).run Tryd.prog w = .ok (.bool false) w := run_eql_held_nil _ _ T v hiPiece

/-- What the reading goes on with, from a place on. -/
theorem readF_got {k pos : Nat} {l : Lx.Bs} {p : Lx.Piece} {n : Nat} (hl : l ≠ []) (h : Lx.piece l = .got p n) :
    Lx.readF (k + 1) pos l = ((pos, p) :: (Lx.readF k (pos + (n + Lx.skipL (l.drop n))) (l.drop (n + Lx.skipL (l.drop n)))).1, (Lx.readF k (pos + (n + Lx.skipL (l.drop n))) (l.drop (n + Lx.skipL (l.drop n)))).2) := by
  rw [Lx.readF, if_neg hl, h]
theorem readF_bad {k pos : Nat} {l : Lx.Bs} {w : Int} (hl : l ≠ []) (h : Lx.piece l = .bad w) : Lx.readF (k + 1) pos l = ([], some (pos, w)) := by
  rw [Lx.readF, if_neg hl, h]

/-- What holds between two steps of the iterator. -/
structure ItAt (w00 W0 : World) (bs : Nat) (s : ByteArray) (w : World) : Prop where
  src : w.cell? ⟨bs, 0, none⟩ = some (.string s)
  tri : w.heap[W0.heap.size]? = some (.cells triesA 95 (0, 0))
  same : SameTo w00 w
  base : w00.heap.size ≤ w.heap.size
  size : W0.heap.size < w.heap.size
theorem ItAt.below {w00 W0 : World} {bs : Nat} {s : ByteArray} {w w' : World} (h : ItAt w00 W0 bs s w) (hb : Below w.heap.size w w') : ItAt w00 W0 bs s w' :=
  ⟨(hb.cell (p := ⟨bs, 0, none⟩) (World.block_lt_of_cell? _ _ h.src)).trans h.src, (hb.block _ h.size).trans h.tri, h.same.then h.base hb, Nat.le_trans h.base hb.size, Nat.lt_of_lt_of_le h.size hb.size⟩
theorem ItAt.keep {w00 W0 : World} {bs : Nat} {s : ByteArray} {w w' : World} (h : ItAt w00 W0 bs s w) (hk : KeepI (fun k => k < w00.heap.size ∨ k = bs ∨ k = W0.heap.size) w w') : ItAt w00 W0 bs s w' :=
  ⟨(World.cell?_of_block (a := ⟨bs, 0, none⟩) (hk.own bs (.inr (.inl rfl)))).trans h.src, (hk.own _ (.inr (.inr rfl))).trans h.tri, fun k hlt => (hk.own k (.inl hlt)).trans (h.same k hlt), Nat.le_trans h.base hk.size, Nat.lt_of_lt_of_le h.size hk.size⟩
theorem ItAt.tries {w00 W0 : World} {bs : Nat} {s : ByteArray} {w : World} (h : ItAt w00 W0 bs s w) (j : Nat) : w.cell? ⟨W0.heap.size, j, none⟩ = triesA[j]? := by
  simp [World.cell?, h.tri]
theorem ItAt.laid {w00 W0 : World} {bs : Nat} {s : ByteArray} {w : World} (h : ItAt w00 W0 bs s w) (hL : Laid w00) : Laid w := hL.same h.same

/-- What a try takes lies ahead. -/
def Fits (l : Lx.Bs) (t : Lx.Tried) : Prop := ∀ p n, t = .got p n → 1 ≤ n ∧ n ≤ l.length
theorem fits_or {l : Lx.Bs} {a b : Lx.Tried} (ha : Fits l a) (hb : Fits l b) : Fits l (Lx.orElse a b) := by
  cases a with
  | none => exact hb
  | bad w => exact ha
  | got p n => exact ha
theorem fits_letters (l : Lx.Bs) : Fits l (Lx.letters l) := by
  intro p n h
  unfold Lx.letters at h
  have hle := Lx.runL_le Lx.isLet l
  split at h
  · cases h
  · split at h
    · cases h
    · cases h
      omega
theorem fits_digits (l : Lx.Bs) : Fits l (Lx.digits l) := by
  intro p n h
  unfold Lx.digits at h
  have hle := Lx.runL_le Lx.isDig (Lx.afterTilde l)
  split at h
  · cases h
  · split at h
    · cases h
    · cases h
      unfold Lx.afterTilde at *
      split at hle <;> rename_i ht
      · rw [if_pos ht]
        have : l ≠ [] := by rintro rfl; simp [Lx.tilde] at ht
        have := List.length_pos_iff.2 this
        simp at hle
        simp [ht] at *
        omega
      · rw [if_neg ht]
        simp [ht] at *
        omega
theorem fits_quoted (l : Lx.Bs) : Fits l (Lx.quoted l) := by
  intro p n h
  unfold Lx.quoted at h
  split at h
  · cases h
  · split at h
    · cases h
    · split at h
      · cases h
      · rename_i h1 h2 h3
        have : n = Lx.runL Lx.isTxt l.tail + 2 := by
          have h' := h
          simp only [Lx.Tried.got.injEq] at h'
          exact h'.2.symm
        have ht : l.tail.length = l.length - 1 := by simp
        have : ¬ l.tail.length ≤ Lx.runL Lx.isTxt l.tail := fun x => h2 (.inl x)
        omega
theorem fits_signAt (l : Lx.Bs) : ∀ ws : List Lx.Bs, (∀ x ∈ ws, x ≠ []) → Fits l (Lx.signAt l ws)
  | [], _ => by intro p n h; cases h
  | x :: ws, hx => by
    intro p n h
    unfold Lx.signAt at h
    split at h
    · rename_i hp
      cases h
      have h1 : x ≠ [] := hx x (by simp)
      have h2 := (List.isPrefixOf_iff_prefix.1 hp).length_le
      have h3 := List.length_pos_iff.2 h1
      omega
    · exact fits_signAt l ws (fun y hy => hx y (by simp [hy])) p n h
theorem got_len (l : Lx.Bs) (p : Lx.Piece) (n : Nat) (h : Lx.piece l = .got p n) : 1 ≤ n ∧ n ≤ l.length := by
  have hf : Fits l (Lx.tried l) := fits_or (fits_letters l) (fits_or (fits_digits l) (fits_or (fits_quoted l) (fits_signAt l _ (by decide))))
  unfold Lx.piece at h
  cases ht : Lx.tried l with
  | none => rw [ht] at h; cases h
  | bad w => rw [ht] at h; cases h
  | got q m => rw [ht] at h; exact hf p n (ht.trans h)
theorem piece_bad (l : Lx.Bs) (why : Int) (h : Lx.tried l = .bad why) : Lx.piece l = .bad why := by unfold Lx.piece; rw [h]
theorem piece_none (l : Lx.Bs) (h : Lx.tried l = .none) : Lx.piece l = .bad 1 := by unfold Lx.piece; rw [h]

set_option maxHeartbeats 4000000 in
set_option maxRecDepth 100000 in
theorem pieces_iter (w00 : World) (hL00 : Laid w00) (s : ByteArray) (bs : Nat) (hs : s.size ≤ 140737488355328) (ps : List (Nat × Lx.Piece)) (er : Option (Nat × Int)) (hrd : Lx.readAll s.data.toList = (ps, er)) :
    Iter Tryd.prog 67 #[.pointer (some ⟨bs, 0, none⟩)] encAt
      (fun W => W.cell? ⟨bs, 0, none⟩ = some (.string s) ∧ SameTo w00 W ∧ w00.heap.size ≤ W.heap.size) (fun W k => k < w00.heap.size ∨ k = bs ∨ k = W.heap.size) (fun _ W W' => Below W.heap.size W W')
      (fun pre x => pre ++ [x] <+: ps) (fun xs => xs = ps ∧ er = none) (fun c xs => xs = ps ∧ ∃ pos why, er = some (pos, why) ∧ c = [{ v := wrongV pos why, recovered := false }]) := by
  intro l J Jx W0 ⟨hcs, hsame, hsz0⟩ hJ hJx hY h0
  simp only [List.append_toArray, List.cons_append, List.nil_append]
  have hbs : bs < W0.heap.size := World.block_lt_of_cell? _ _ hcs
  have hrdh := Lib.hid hrd
  have hJh := Lib.hid hJ
  have hYh := Lib.hid hY
  have hJ0 := Lib.hid h0
  clear hrd hJ hY h0 hJx
  go_enter Tryd.func67, Tryd.ntmps67
  go_wp2_with fail
  refine (skip_calls s 0 _ (Nat.zero_le _) hs).mono ?_
  rintro e w1 ⟨rfl, hb1⟩
  have hat0 : ItAt w00 W0 bs s w1 := by
    have hbA := (Below.refl W0.heap.size W0).alloc (Nat.le_refl _) (.cells triesA 95 (0, 0))
    refine ItAt.below (w := W0.alloc (.cells triesA 95 (0, 0))) ⟨(hbA.cell (p := ⟨bs, 0, none⟩) hbs).trans hcs, World.alloc_heap_new _ _, hsame.then hsz0 hbA, by simp; omega, by simp⟩ hb1
  have hJ1 : Hid (J [] w1) := Lib.hid (hJh.out _ _ _ (hJh.out _ _ _ hJ0.out ((Below.refl W0.heap.size W0).alloc (Nat.le_refl _) (.cells triesA 95 (0, 0)))) hb1)
  have hat := Lib.hid hat0
  clear hb1 hat0 hcs
  have hsk : Lx.skipL s.data.toList ≤ s.size := by have := skipF_le s.data.toList false; simp at this; exact this
  simp only [List.drop_zero, Nat.zero_add]
  obtain ⟨p0, hp0⟩ : ∃ p0, p0 = Lx.skipL s.data.toList := ⟨_, rfl⟩
  rw [← hp0] at hsk ⊢
  have hp0h := Lib.hid hp0
  clear hp0
  go_wp2
  go_loopg [4] (s.size + 1) (fun g v4 wr => ∃ (pos : Nat) (pre rest : List (Nat × Lx.Piece)), v4 = .int .i64 pos ∧ pos ≤ s.size ∧ Hid (s.size < g + pos) ∧ Hid (ps = pre ++ rest) ∧ Hid (Lx.readF g pos (s.data.toList.drop pos) = (rest, er)) ∧ Hid (ItAt w00 W0 bs s wr) ∧ Hid (J pre wr))
  case atStart =>
    refine ⟨p0, [], ps, rfl, hsk, Lib.hid (by omega), Lib.hid rfl, Lib.hid ?_, hat, hJ1⟩
    have := hrdh.out
    unfold Lx.readAll at this
    rw [← hp0h.out] at this
    simpa using this
  case round =>
    obtain ⟨pos, pre, rest, rfl, hpos, hg, hps, hrf, hat, hJp⟩ := hrel
    have hc := hat.out.src
    have hGk : ∃ G, Hid (gk = G) := ⟨gk, Lib.hid rfl⟩
    obtain ⟨G, hGk⟩ := hGk
    rw [hGk.out] at hg hrf
    have hK := ‹∀ (a' : Act) (w' : World), Handed _ _ a' w' → _›
    by_cases hlt : pos < s.size
    · have c0 := hat.out.tries 0
      have c1 := hat.out.tries 1
      have c2 := hat.out.tries 2
      have c3 := hat.out.tries 3
      simp only [triesA, List.getElem?_toArray, List.getElem?_cons_zero, List.getElem?_cons_succ] at c0 c1 c2 c3
      go_wp2
      go_step3
      go_wp2
      go_step3
      go_wp2
      rw [show (#[fnV (fnNo 0), fnV (fnNo 1), fnV (fnNo 2), fnV (fnNo 3)] : Array Value) = triesA from rfl]
      clear c0 c1 c2 c3
      obtain ⟨L, hLd⟩ : ∃ L, L = s.data.toList.drop pos := ⟨_, rfl⟩
      have hLh := Lib.hid hLd
      clear hLd
      have hnn := neq_nil_nil
      have hen := eql_nil_nil
      have hnh := neq_held_nil
      have heh := eql_held_nil
      go_loopg [5, 6, 18] 4 (fun h v5 v6 v18 wr2 => ∃ j : Nat, v5 = .nilIface ∧ v6 = .int .i64 0 ∧ v18 = .int .i64 j ∧ Hid (h + j = 4) ∧ Hid (Lx.tried L = triedFrom L j) ∧ Hid (Below wr.heap.size wr wr2))
      case atStart => exact ⟨0, rfl, rfl, rfl, Lib.hid rfl, Lib.hid rfl, Lib.hid (Below.refl _ _)⟩
      case round =>
        rename_i g2 wr2
        obtain ⟨j, rfl, rfl, rfl, hh, htr, hbw⟩ := hrel
        have hat2 := Lib.hid (hat.out.below hbw.out)
        have hc2 := hat2.out.src
        by_cases hj : j < 4
        · have hidx := index_try j hj
          have hent := enters_try j hj
          have hstep := Lib.hid (triedFrom_step L j hj)
          unfold fnV at hidx
          obtain ⟨F, hF⟩ : ∃ F, F = fnNo j := ⟨_, rfl⟩
          have hcall := Lib.hid (try_calls j hj s pos _ (hat2.out.laid hL00) hlt hs)
          rw [← hF] at hidx hent hcall
          clear hF
          go_wp2_with fail
          refine hcall.out.mono ?_
          rintro e w3 ⟨hT, hb3⟩
          rw [← hLh.out] at hT
          have hat3 := Lib.hid (hat2.out.below hb3)
          have hbw3 := Lib.hid (below_then hbw.out hb3 (Nat.le_refl _))
          clear hb3
          cases hTry : tryN L j with
          | none =>
            rw [hTry] at hT
            obtain rfl : e = _ := hT
            go_wp2
            go_roundg (4 - (j + 1))
            case measure => have := hh.out; omega
            case rel => exact ⟨j + 1, rfl, rfl, by go_num, Lib.hid (by omega), Lib.hid (by rw [htr.out, hstep.out, hTry]; rfl), hbw3⟩
          | bad why =>
            rw [hTry] at hT
            obtain rfl : e = _ := hT
            have hpc : Lx.piece L = .bad why := piece_bad L why (by rw [htr.out, hstep.out, hTry]; rfl)
            have hne : L ≠ [] := by rw [hLh.out, drop_cons s pos hlt]; simp
            obtain ⟨G', hG'⟩ : ∃ g', G = g' + 1 := ⟨G - 1, by have := hg.out; omega⟩
            have hrest := hrf.out
            rw [← hLh.out, hG', readF_bad hne hpc] at hrest
            simp only [Prod.mk.injEq] at hrest
            have hend : Hid (pre = ps ∧ er = some (pos, why)) := Lib.hid ⟨by rw [hps.out, ← hrest.1]; simp, hrest.2.symm⟩
            have hJ3 := Lib.hid (hJh.out _ _ _ hJp.out hbw3.out)
            clear hrest hG' hpc
            go_wp2
            exact ⟨rfl, .inr ⟨_, pre, rfl, ⟨hend.out.1, pos, why, hend.out.2, rfl⟩, hJ3.out⟩⟩
          | got p n =>
            rw [hTry] at hT
            obtain rfl : e = _ := hT
            obtain ⟨T, v, hTv⟩ := piece_iface p
            -- the rest begins with this piece
            have hpc : Lx.piece L = .got p n := by
              unfold Lx.piece
              rw [htr.out, hstep.out, hTry]
              rfl
            have hne : L ≠ [] := by rw [hLh.out, drop_cons s pos hlt]; simp
            obtain ⟨G', hG'⟩ : ∃ g', G = g' + 1 := ⟨G - 1, by have := hg.out; omega⟩
            have hrest := hrf.out
            rw [← hLh.out, hG', readF_got hne hpc] at hrest
            have hGh := Lib.hid hG'
            clear hG'
            simp only [Prod.mk.injEq] at hrest
            obtain ⟨hrest, her⟩ := hrest
            have hyy := hYh.out pre (pos, p) w3 (hJh.out _ _ _ hJp.out hbw3.out) (by rw [hps.out, ← hrest]; simp) (by have := hat3.out.size; omega) (by
              have h1 := hat3.out.size
              have h2 := hat3.out.base
              rintro k (h | h | h)
              · omega
              · omega
              · omega)
            obtain ⟨fn, tm, asg, bdy, hyr, hR⟩ := hyy
            dsimp only [encAt] at hyr
            rw [hTv] at hyr ⊢
            have hrh := Lib.hid hrest
            have herh := Lib.hid her
            have hpch := Lib.hid hpc
            clear hrest her hpc
            go_upto_region 13 with (fail)
            refine (wpIn_wide (n := 2)).1 ?_
            gi_wp2
            refine hR.mono ?_
            rintro e w4 (⟨rfl, hJ4, hk4⟩ | ⟨rfl, hJ4, hk4⟩)
            · have hfit := got_len L p n hpch.out
              rw [hLh.out] at hfit
              have hfit2 : pos + n ≤ s.size ∧ 1 ≤ n := by
                have := hfit.2
                have h0 := hfit.1
                simp at this
                omega
              clear hfit
              have hat4 := Lib.hid (hat3.out.keep hk4)
              have hJ4h := Lib.hid hJ4
              clear hk4 hJ4
              have hc4 := hat4.out.src
              gi_wp2
              go_wp2_with fail
              refine (skip_calls s (pos + n) _ hfit2.1 hs).mono ?_
              rintro e w5 ⟨rfl, hb5⟩
              have hat5 := Lib.hid (hat4.out.below hb5)
              have hJ5 := Lib.hid (hJh.out _ _ _ hJ4h.out hb5)
              have hdd : List.drop (pos + n) s.data.toList = L.drop n := by rw [hLh.out]; simp
              rw [hdd]
              clear hb5
              have hsl := Lib.hid (skipF_le (L.drop n) false)
              obtain ⟨m, hm⟩ : ∃ m, m = Lx.skipL (L.drop n) := ⟨_, rfl⟩
              have hps2 : Hid (ps = (pre ++ [(pos, p)]) ++ (Lx.readF G' (pos + (n + m)) (L.drop (n + m))).1) := Lib.hid (by rw [hps.out, ← hrh.out, hm]; simp)
              have hrf2 : Hid (Lx.readF G' (pos + (n + m)) (s.data.toList.drop (pos + (n + m))) = ((Lx.readF G' (pos + (n + m)) (L.drop (n + m))).1, er)) := Lib.hid (by
                have hd2 : s.data.toList.drop (pos + (n + m)) = L.drop (n + m) := by rw [hLh.out]; simp
                have her' := herh.out
                rw [← hm] at her'
                rw [hd2, ← her'])
              have hmle : m + (pos + n) ≤ s.size := by
                have h1 := hsl.out
                have h2 : Lx.skipF false (L.drop n) = m := hm.symm
                rw [h2, hLh.out] at h1
                simp at h1
                have := hfit2.1
                omega
              rw [← hm]
              have hmh := Lib.hid hm
              clear hdd hm
              rw [show pos + n + m = pos + (n + m) by omega]
              go_wp2
              simp only [Exit.noGoto, Exit.inBlock, Exit.then]
              refine hK _ _ ?_
              go_roundg G'
              case measure => have := hGh.out; have := hGk.out; omega
              case rel => exact ⟨pos + (n + m), _, _, rfl, by omega, Lib.hid (by have := hg.out; have := hGh.out; omega), hps2, hrf2, hat5, hJ5⟩
            · have hJ4h := Lib.hid hJ4
              clear hk4 hJ4
              gi_wp2
              go_wp2
              exact ⟨rfl, _, results_none rfl _ _ _, .inl ⟨_, rfl, .inr ⟨_, hJ4h.out⟩⟩⟩
        · have hj4 : j = 4 := by have := hh.out; omega
          have hpc : Lx.piece L = .bad 1 := piece_none L (by rw [htr.out, hj4]; rfl)
          have hne : L ≠ [] := by rw [hLh.out, drop_cons s pos hlt]; simp
          obtain ⟨G', hG'⟩ : ∃ g', G = g' + 1 := ⟨G - 1, by have := hg.out; omega⟩
          have hrest := hrf.out
          rw [← hLh.out, hG', readF_bad hne hpc] at hrest
          simp only [Prod.mk.injEq] at hrest
          have hend : Hid (pre = ps ∧ er = some (pos, 1)) := Lib.hid ⟨by rw [hps.out, ← hrest.1]; simp, hrest.2.symm⟩
          have hJ3 := Lib.hid (hJh.out _ _ _ hJp.out hbw.out)
          clear hrest hG' hpc
          go_wp2
          exact ⟨rfl, .inr ⟨_, pre, rfl, ⟨hend.out.1, pos, 1, hend.out.2, rfl⟩, hJ3.out⟩⟩
    · have hrest := hrf.out
      have hpe : pos = s.size := by omega
      have hnil : s.data.toList.drop pos = [] := List.drop_of_length_le (by simp; omega)
      obtain ⟨G', hG'⟩ : ∃ g', G = g' + 1 := ⟨G - 1, by have := hg.out; omega⟩
      rw [hnil, hG', Lx.readF, if_pos rfl] at hrest
      simp only [Prod.mk.injEq] at hrest
      have hend : Hid (pre = ps ∧ er = none) := Lib.hid ⟨by rw [hps.out, ← hrest.1]; simp, hrest.2.symm⟩
      clear hrest hG' hnil hpe
      go_wp2
      exact ⟨rfl, _, results_none rfl _ _ _, .inl ⟨_, rfl, .inl ⟨_, hend.out, hend.out.1 ▸ hJp.out⟩⟩⟩
end Go.Proofs.YtkijoeihkajlcaaDoor

set_option linter.unusedVariables false
set_option linter.unusedSimpArgs false
namespace Go.Proofs.YtkijoeihkajlcaaDoor
open Go.RowKit Go.Shelf
open Go.Proofs.YtkijoeihkajlcaaDoorW.PrintWords (Kd OwnRow Reps blk_set blk_cell blk_frozen)

def tokK : Lx.Piece → Int
  | .word l => if Lx.isKey l then 2 else 1
  | .num _ => 3
  | .str _ => 4
  | .sgn _ => 5
def bsOf (l : Lx.Bs) : ByteArray := ⟨l.toArray⟩
def tokT : Lx.Piece → ByteArray
  | .word l => bsOf l
  | .num _ => ⟨#[]⟩
  | .str l => bsOf l
  | .sgn l => bsOf l
def tokN : Lx.Piece → Int
  | .num n => n
  | _ => 0
/-- A token as the program keeps it: kind, text, number, place. -/
structure Tk where
  f0 : Int
  f1 : ByteArray
  f2 : Int
  f3 : Int
def kTk : Kd Tk := Kd.iso (Kd.pair (Kd.int .i64) (Kd.pair Kd.string (Kd.pair (Kd.int .i64) (Kd.int .i64)))) (fun x : Tk => (x.f0, x.f1, x.f2, x.f3))
def zTk : Tk := ⟨0, ⟨#[]⟩, 0, 0⟩
def tkL (x : Tk) : List Value := [.int .i64 x.f0, .string x.f1, .int .i64 x.f2, .int .i64 x.f3]
theorem kTk_open {w : World} {x : Tk} {cs : List Value} (h : kTk.K w x cs) : cs = tkL x := by
  obtain ⟨_, _, rfl, rfl, ⟨_, _, rfl, rfl, ⟨_, _, rfl, rfl, rfl⟩⟩⟩ := h
  exact rfl
theorem kTk_openM {w : World} {base : Nat} {ok : Nat → Prop} {x : Tk} {cs : List Value} (h : kTk.M w base ok x cs) : cs = tkL x := by
  obtain ⟨_, _, rfl, rfl, ⟨_, _, rfl, rfl, ⟨_, _, rfl, rfl, rfl⟩⟩⟩ := h
  exact rfl
theorem kTk_mk (w : World) (x : Tk) : kTk.K w x (tkL x) := ⟨[.int .i64 x.f0], [.string x.f1, .int .i64 x.f2, .int .i64 x.f3], rfl, rfl, ⟨[.string x.f1], [.int .i64 x.f2, .int .i64 x.f3], rfl, rfl, ⟨[.int .i64 x.f2], [.int .i64 x.f3], rfl, rfl, rfl⟩⟩⟩
theorem kTk_mkM (w : World) (base : Nat) (ok : Nat → Prop) (x : Tk) : kTk.M w base ok x (tkL x) := ⟨[.int .i64 x.f0], [.string x.f1, .int .i64 x.f2, .int .i64 x.f3], rfl, rfl, ⟨[.string x.f1], [.int .i64 x.f2, .int .i64 x.f3], rfl, rfl, ⟨[.int .i64 x.f2], [.int .i64 x.f3], rfl, rfl, rfl⟩⟩⟩
/-- The token of a piece at a place. -/
def tokS (x : Nat × Lx.Piece) : Tk := ⟨tokK x.2, tokT x.2, tokN x.2, (x.1 : Int)⟩
def tokCs (t : Tk) : Array Value := #[.int .i64 t.f0, .string t.f1, .int .i64 t.f2, .int .i64 t.f3]

theorem results_tok {fn : Func} {p : Tmp} (h : fn.results = #[.cell p 37]) (tmps : Array Value) (w : World) (g : Nat) (t : TypeId) (cs : Array Value) (hp : tmps.getD p undef = .pointer (some ⟨g, 0, none⟩)) (hg : w.heap[g]? = some (.cells cs t (0, 0))) (hi : cs.size = 4) :
    (results fn tmps).run Tryd.prog w = .ok (.agg cs) w :=
  results_cell_row h tmps w g t cs (0, 0) ((Tryd.prog.underlying 37).getD .string) hp hg (by kernel_rfl) (by kernel_rfl) (by rw [hi]; kernel_rfl)

theorem new_two (w : World) (a b : Obj) : ((w.alloc a).alloc b).heap[w.heap.size + 1]? = some b := by simpa using World.alloc_heap_new (w.alloc a) b
theorem below_two (w : World) (a b : Obj) : Below w.heap.size w ((w.alloc a).alloc b) := ((Below.refl _ w).alloc (Nat.le_refl _) a).alloc (by simp) b

set_option maxRecDepth 100000 in
set_option maxHeartbeats 4000000 in
theorem word_token (b : ByteArray) (pos : Nat) (w : World) (hL : Laid w) : Calls Tryd.prog 124 #[.agg #[.string b], .int .i64 pos] w fun e w' => e = .returned (.agg #[.int .i64 (if Lx.isKey b.data.toList then 2 else 1), .string b, .int .i64 0, .int .i64 pos]) ∧ Below w.heap.size w w' := by
  go_enter Tryd.func124, Tryd.ntmps124
  go_wp2_with fail
  refine (Key_calls b _ (hL.below (below_two _ _ _))).mono ?_
  rintro e w1 ⟨rfl, hb⟩
  have hbig := new_two w (.cells #[.string b] 82 (0, 0)) (.cells #[.int .i64 0, .string ⟨#[]⟩, .int .i64 0, .int .i64 0] 37 (0, 0))
  have hc0 : w1.cell? ⟨w.heap.size, 0, none⟩ = some (.string b) := by
    refine (hb.cell (p := ⟨w.heap.size, 0, none⟩) (by show w.heap.size < _; simp; omega)).trans ?_
    simp [go_sem]
  have hc1 : w1.heap[w.heap.size + 1]? = some (.cells #[.int .i64 0, .string ⟨#[]⟩, .int .i64 0, .int .i64 0] 37 (0, 0)) := by
    rw [hb.block _ (by simp), hbig]
  have hB := Lib.hid (below_then (below_two w _ _) hb (Nat.le_refl _))
  clear hb hbig
  have d0 := blk_cell hc1 0
  have d1 := blk_cell hc1 1
  have d2 := blk_cell hc1 2
  have d3 := blk_cell hc1 3
  simp only [List.getElem?_toArray, List.getElem?_cons_zero, List.getElem?_cons_succ] at d0 d1 d2 d3
  have f0 := blk_frozen hc1 0
  have f1 := blk_frozen hc1 1
  have f2 := blk_frozen hc1 2
  have f3 := blk_frozen hc1 3
  have hc1h := Lib.hid hc1
  clear hc1
  have hres : ∀ k : Int, ((((w1.setCell ⟨w.heap.size + 1, 0, none⟩ (.int .i64 k)).setCell ⟨w.heap.size + 1, 1, none⟩ (.string b)).setCell ⟨w.heap.size + 1, 2, none⟩ (.int .i64 0)).setCell ⟨w.heap.size + 1, 3, none⟩ (.int .i64 pos)).heap[w.heap.size + 1]? = some (.cells #[.int .i64 k, .string b, .int .i64 0, .int .i64 pos] 37 (0, 0)) := fun k => blk_set (blk_set (blk_set (blk_set hc1h.out 0 _) 1 _) 2 _) 3 _
  have hbel : ∀ k : Int, Below w.heap.size w ((((w1.setCell ⟨w.heap.size + 1, 0, none⟩ (.int .i64 k)).setCell ⟨w.heap.size + 1, 1, none⟩ (.string b)).setCell ⟨w.heap.size + 1, 2, none⟩ (.int .i64 0)).setCell ⟨w.heap.size + 1, 3, none⟩ (.int .i64 pos)) := fun k =>
    (((hB.out.setCell (p := ⟨w.heap.size + 1, 0, none⟩) (Nat.le_succ _) _).setCell (p := ⟨w.heap.size + 1, 1, none⟩) (Nat.le_succ _) _).setCell (p := ⟨w.heap.size + 1, 2, none⟩) (Nat.le_succ _) _).setCell (p := ⟨w.heap.size + 1, 3, none⟩) (Nat.le_succ _) _
  have hresh := Lib.hid hres
  have hbelh := Lib.hid hbel
  clear hres hbel
  cases hk : Lx.isKey b.data.toList
  · go_wp2
    all_goals (refine bodyPost_ret (results_tok rfl _ _ (w.heap.size + 1) 37 _ rfl (hresh.out _) rfl) rfl ⟨rfl, hbelh.out _⟩)
  · go_wp2
    all_goals (refine bodyPost_ret (results_tok rfl _ _ (w.heap.size + 1) 37 _ rfl (hresh.out _) rfl) rfl ⟨rfl, hbelh.out _⟩)
set_option maxRecDepth 100000 in
set_option maxHeartbeats 4000000 in
theorem number_token (n : Int) (pos : Nat) (w : World) : Calls Tryd.prog 125 #[.agg #[.int .i64 n], .int .i64 pos] w fun e w' => e = .returned (.agg #[.int .i64 3, .string ⟨#[]⟩, .int .i64 n, .int .i64 pos]) ∧ Below w.heap.size w w' := by
  go_enter Tryd.func125, Tryd.ntmps125
  go_wp2
  refine bodyPost_ret (results_tok rfl _ _ (w.heap.size + 1) 37 _ rfl (new_two _ _ _) rfl) rfl ⟨rfl, below_two _ _ _⟩
set_option maxRecDepth 100000 in
set_option maxHeartbeats 4000000 in
theorem str_token (b : ByteArray) (pos : Nat) (w : World) : Calls Tryd.prog 126 #[.agg #[.string b], .int .i64 pos] w fun e w' => e = .returned (.agg #[.int .i64 4, .string b, .int .i64 0, .int .i64 pos]) ∧ Below w.heap.size w w' := by
  go_enter Tryd.func126, Tryd.ntmps126
  go_wp2
  refine bodyPost_ret (results_tok rfl _ _ (w.heap.size + 1) 37 _ rfl (new_two _ _ _) rfl) rfl ⟨rfl, below_two _ _ _⟩
set_option maxRecDepth 100000 in
set_option maxHeartbeats 4000000 in
theorem sign_token (b : ByteArray) (pos : Nat) (w : World) : Calls Tryd.prog 127 #[.agg #[.string b], .int .i64 pos] w fun e w' => e = .returned (.agg #[.int .i64 5, .string b, .int .i64 0, .int .i64 pos]) ∧ Below w.heap.size w w' := by
  go_enter Tryd.func127, Tryd.ntmps127
  go_wp2
  refine bodyPost_ret (results_tok rfl _ _ (w.heap.size + 1) 37 _ rfl (new_two _ _ _) rfl) rfl ⟨rfl, below_two _ _ _⟩

def tokNo : Lx.Piece → Nat
  | .word _ => 124
  | .num _ => 125
  | .str _ => 126
  | .sgn _ => 127
def payOf : Lx.Piece → Value
  | .word l => .agg #[strV l]
  | .num n => .agg #[.int .i64 n]
  | .str l => .agg #[strV l]
  | .sgn l => .agg #[strV l]
def dynOf : Lx.Piece → Nat
  | .word _ => 82
  | .num _ => 84
  | .str _ => 85
  | .sgn _ => 86
theorem encPiece_eq (p : Lx.Piece) : encPiece p = .iface (dynOf p) (payOf p) := by cases p <;> rfl
/-- The token of a piece, whichever. -/
theorem token_calls (p : Lx.Piece) (pos : Nat) (w : World) (hL : Laid w) : Calls Tryd.prog (tokNo p) #[payOf p, .int .i64 pos] w fun e w' => e = .returned (.agg (tokCs (tokS (pos, p)))) ∧ Below w.heap.size w w' := by
  cases p with
  | word l => exact (word_token (bsOf l) pos w hL)
  | num n => exact number_token n pos w
  | str l => exact str_token (bsOf l) pos w
  | sgn l => exact sign_token (bsOf l) pos w
theorem enters_token (p : Lx.Piece) (args : Array Value) (w : World) : (callFunc (tokNo p) args).run Tryd.prog w = .ok (.enter (tokNo p) args) w := by
  cases p with
  | word l => exact enters_of Tryd.func124 (by kernel_rfl) rfl args w
  | num l => exact enters_of Tryd.func125 (by kernel_rfl) rfl args w
  | str l => exact enters_of Tryd.func126 (by kernel_rfl) rfl args w
  | sgn l => exact enters_of Tryd.func127 (by kernel_rfl) rfl args w
end Go.Proofs.YtkijoeihkajlcaaDoor

set_option linter.unusedVariables false
set_option linter.unusedSimpArgs false
namespace Go.Proofs.YtkijoeihkajlcaaDoor
open Go.RowKit Go.Shelf
open Go.Proofs.YtkijoeihkajlcaaDoorW.PrintWords (Kd OwnRow Reps blk_set blk_far blk_drew blk_cell blk_frozen blk_alloc blk_lt)

/-- The three variables of read. -/
structure Vars (B : Nat) (w : World) (t0 t1 b0 b1 ok : Value) : Prop where
  r : w.heap[B]? = some (.cells #[t0, t1] 63 (0, 0))
  b : w.heap[B + 1]? = some (.cells #[b0, b1] 65 (0, 0))
  o : w.heap[B + 2]? = some (.cells #[ok] 4 (0, 0))

theorem assert_wrong (x : Value) (w : World) : (Instr.typeAssert (.iface 65 x) 20 65 true).run Tryd.prog w = .ok (.tuple #[x, .bool true]) w := by kernel_rfl
set_option maxRecDepth 100000 in
set_option maxHeartbeats 4000000 in
theorem catch_panic (n : Nat) (B : Nat) (w : World) (x0 x1 y0 y1 z : Value) (hv : Vars B w x0 x1 y0 y1 z) (pos : Nat) (why : Int) :
    CallsDIn Fence.wide n Tryd.prog 55 #[.pointer (some ⟨B, 0, none⟩), .pointer (some ⟨B + 1, 0, none⟩), .pointer (some ⟨B + 2, 0, none⟩)] (.panicking [{ v := wrongV pos why, recovered := false }]) w fun e u' w' =>
      e = .returned (.tuple #[]) ∧ u' = .panicking [{ v := wrongV pos why, recovered := true }] ∧ Vars B w' (.string ⟨#[]⟩) (.slice none 0 0) (.int .i64 pos) (.int .i64 why) (.bool false) ∧ Below B w w' := by
  refine callsDIn_of_wpSIn Tryd.func55 rfl (by simp [Fence.wide]) fun c₀ cs hu => ?_
  apply wpSIn_seq
  apply wpSIn_region
  simp [wpOpsSIn, go_sem, recoverD, hu, Tryd.ntmps55, Exit.thenS, wrongV]
  have hv2 : Vars B (w.alloc (.cells #[.int .i64 pos, .int .i64 why] 65 (0, 0))) x0 x1 y0 y1 z := ⟨blk_alloc hv.r _, blk_alloc hv.b _, blk_alloc hv.o _⟩
  have a0 := blk_cell hv2.r 0
  have a1 := blk_cell hv2.r 1
  have b0 := blk_cell hv2.b 0
  have b1 := blk_cell hv2.b 1
  have o0 := blk_cell hv2.o 0
  have fa0 := blk_frozen hv2.r 0
  have fa1 := blk_frozen hv2.r 1
  have fb0 := blk_frozen hv2.b 0
  have fb1 := blk_frozen hv2.b 1
  have fo0 := blk_frozen hv2.o 0
  simp only [List.getElem?_toArray, List.getElem?_cons_zero, List.getElem?_cons_succ] at a0 a1 b0 b1 o0
  refine wpSIn_of_wpIn rfl (wpIn_wide.2 ?_)
  have hle := Lib.hid hv2
  have hlt : B + 2 < w.heap.size := (Array.getElem?_eq_some_iff.1 hv.o).1
  clear hu hv hv2
  have hass := assert_wrong
  rw [show (#[Value.pointer (some { block := B, off := 0 }), Value.pointer (some { block := B + 1, off := 0 }), Value.pointer (some { block := B + 2, off := 0 })] ++ (Array.replicate 11 undef).setIfInBounds 3 (Value.iface 65 (Value.agg #[Value.int IntKind.i64 pos, Value.int IntKind.i64 why])))
    = #[Value.pointer (some { block := B, off := 0 }), Value.pointer (some { block := B + 1, off := 0 }), Value.pointer (some { block := B + 2, off := 0 }), undef, undef, undef, (Value.iface 65 (Value.agg #[Value.int IntKind.i64 pos, Value.int IntKind.i64 why])), undef, undef, undef, undef, undef, undef, undef] from rfl]
  go_wp2
  go_region
  refine ⟨rfl, _, rfl, _, results_none rfl _ _ _, rfl, rfl, ⟨?_, ?_, ?_⟩, ?_⟩
  · refine blk_drew ?_
    refine blk_far (p := ⟨B + 2, 0, none⟩) ?_ (by show B ≠ B + 2; omega) _
    refine blk_far (p := ⟨B + 1, 1, none⟩) ?_ (by show B ≠ B + 1; omega) _
    refine blk_far (p := ⟨B + 1, 0, none⟩) ?_ (by show B ≠ B + 1; omega) _
    refine blk_set (cs := #[.string ⟨#[]⟩, x1]) ?_ 1 _
    exact blk_set (cs := #[x0, x1]) hle.out.r 0 _
  · refine blk_drew ?_
    refine blk_far (p := ⟨B + 2, 0, none⟩) ?_ (by show B + 1 ≠ B + 2; omega) _
    refine blk_set (cs := #[.int .i64 pos, y1]) ?_ 1 _
    refine blk_set (cs := #[y0, y1]) ?_ 0 _
    refine blk_far (p := ⟨B, 1, none⟩) ?_ (by show B + 1 ≠ B; omega) _
    refine blk_far (p := ⟨B, 0, none⟩) ?_ (by show B + 1 ≠ B; omega) _
    exact hle.out.b
  · refine blk_drew ?_
    refine blk_set (cs := #[z]) ?_ 0 _
    refine blk_far (p := ⟨B + 1, 1, none⟩) ?_ (by show B + 2 ≠ B + 1; omega) _
    refine blk_far (p := ⟨B + 1, 0, none⟩) ?_ (by show B + 2 ≠ B + 1; omega) _
    refine blk_far (p := ⟨B, 1, none⟩) ?_ (by show B + 2 ≠ B; omega) _
    refine blk_far (p := ⟨B, 0, none⟩) ?_ (by show B + 2 ≠ B; omega) _
    exact hle.out.o
  · refine Below.drew ?_
    refine Below.setCell (p := ⟨B + 2, 0, none⟩) ?_ (by show B ≤ B + 2; omega) _
    refine Below.setCell (p := ⟨B + 1, 1, none⟩) ?_ (by show B ≤ B + 1; omega) _
    refine Below.setCell (p := ⟨B + 1, 0, none⟩) ?_ (by show B ≤ B + 1; omega) _
    refine Below.setCell (p := ⟨B, 1, none⟩) ?_ (Nat.le_refl _) _
    refine Below.setCell (p := ⟨B, 0, none⟩) ?_ (Nat.le_refl _) _
    exact (Below.refl B w).alloc (by omega) _
set_option maxRecDepth 100000 in
set_option maxHeartbeats 4000000 in
theorem catch_idle (n : Nat) (B : Nat) (w : World) :
    CallsDIn Fence.wide n Tryd.prog 55 #[.pointer (some ⟨B, 0, none⟩), .pointer (some ⟨B + 1, 0, none⟩), .pointer (some ⟨B + 2, 0, none⟩)] .returning w fun e u' w' => e = .returned (.tuple #[]) ∧ u' = .returning ∧ w' = w := by
  refine callsDIn_of_wpSIn Tryd.func55 rfl (by simp [Fence.wide]) fun c₀ cs hu => ?_
  apply wpSIn_seq
  apply wpSIn_region
  simp [wpOpsSIn, go_sem, recoverD, hu, Tryd.ntmps55, Exit.thenS]
  refine wpSIn_of_wpIn rfl (wpIn_wide.2 ?_)
  rw [show (#[Value.pointer (some { block := B, off := 0 }), Value.pointer (some { block := B + 1, off := 0 }), Value.pointer (some { block := B + 2, off := 0 })] ++ (Array.replicate 11 undef).setIfInBounds 3 Value.nilIface)
    = #[Value.pointer (some { block := B, off := 0 }), Value.pointer (some { block := B + 1, off := 0 }), Value.pointer (some { block := B + 2, off := 0 }), undef, undef, undef, Value.nilIface, undef, undef, undef, undef, undef, undef, undef] from rfl]
  go_wp2
  cases c₀
  exact ⟨rfl, _, rfl, _, results_none rfl _ _ _, rfl, hu, rfl⟩
end Go.Proofs.YtkijoeihkajlcaaDoor

set_option linter.unusedVariables false
set_option linter.unusedSimpArgs false
namespace Go.Proofs.YtkijoeihkajlcaaDoor
open Go.RowKit Go.Shelf
open Go.Proofs.YtkijoeihkajlcaaDoorW.PrintWords (Kd OwnRow Reps blk_set blk_far blk_drew blk_cell blk_frozen blk_alloc blk_lt blk_new pw_own_below own_move own_base own_nil own_slice own_weaken step_append_cells)

set_option maxRecDepth 100000 in
set_option maxHeartbeats 4000000 in
theorem pieces_calls (s : ByteArray) (w : World) :
    Calls Tryd.prog 56 #[.agg #[.string s]] w fun e w' =>
      e = .returned (.func (.func 67) #[] #[.pointer (some ⟨w.heap.size, 0, none⟩)]) ∧ w' = w.alloc (.cells #[.string s] 61 (0, 0)) := by
  have hmf : ∀ (fn : Fn) (first cap : Array Value) (w : World), (Instr.makeFunc fn first cap).run Tryd.prog w = .ok (.func fn first cap) w := fun _ _ _ _ => rfl
  go_enter Tryd.func56, Tryd.ntmps56
  go_wp2
  go_ret
  exact ⟨rfl, rfl⟩

theorem gen_world {P : Program} {c : Code} {Q : Exit → Act → World → Prop} {a : Act} {w : World} (h : ∀ W, w = W → Code.wp P c Q a W) : Code.wp P c Q a w := h w rfl
/-- The four first blocks of read. -/
def rdStart (w : World) (s : ByteArray) : World :=
  (((w.alloc (.cells #[.string s, .slice none 0 0] 63 (0, 0))).alloc (.cells #[.int .i64 0, .int .i64 0] 65 (0, 0))).alloc (.cells #[.bool false] 4 (0, 0))).alloc (.cells #[.string s] 61 (0, 0))
theorem rdStart_size (w : World) (s : ByteArray) : (rdStart w s).heap.size = w.heap.size + 4 := by simp [rdStart]
theorem rdStart_vars (w : World) (s : ByteArray) : Vars w.heap.size (rdStart w s) (.string s) (.slice none 0 0) (.int .i64 0) (.int .i64 0) (.bool false) := by
  refine ⟨?_, ?_, ?_⟩
  · exact blk_alloc (blk_alloc (blk_alloc (blk_new w _) _) _) _
  · refine blk_alloc (blk_alloc ?_ _) _
    exact new_two _ _ _
  · refine blk_alloc ?_ _
    have := blk_new ((w.alloc (.cells #[.string s, .slice none 0 0] 63 (0, 0))).alloc (.cells #[.int .i64 0, .int .i64 0] 65 (0, 0))) (.cells #[.bool false] 4 (0, 0))
    simpa using this
theorem rdStart_src (w : World) (s : ByteArray) : (rdStart w s).heap[w.heap.size + 3]? = some (.cells #[.string s] 61 (0, 0)) := by
  have := blk_new (((w.alloc (.cells #[.string s, .slice none 0 0] 63 (0, 0))).alloc (.cells #[.int .i64 0, .int .i64 0] 65 (0, 0))).alloc (.cells #[.bool false] 4 (0, 0))) (.cells #[.string s] 61 (0, 0))
  unfold rdStart
  simpa using this
theorem rdStart_below (w : World) (s : ByteArray) : Below w.heap.size w (rdStart w s) :=
  ((((Below.refl _ w).alloc (Nat.le_refl _) _).alloc (by simp) _).alloc (by simp; omega) _).alloc (by simp; omega) _

theorem readF_len : ∀ (k pos : Nat) (l : Lx.Bs), (Lx.readF k pos l).1.length ≤ k
  | 0, _, _ => by simp [Lx.readF]
  | k + 1, pos, l => by
    rw [Lx.readF]
    split
    · simp
    · split
      · simp
      · simp
      · have := readF_len k
        simp only [List.length_cons]
        exact Nat.succ_le_succ (this _ _)
theorem readAll_len (l : Lx.Bs) : (Lx.readAll l).1.length ≤ l.length + 1 := readF_len _ _ _
theorem Laid.drew' {w : World} (h : Laid w) : Laid w.drew := h.same (fun _ _ => rfl)

/-- What holds between two rounds of read's loop. -/
structure RdAt (w : World) (s : ByteArray) (ps : List (Nat × Lx.Piece)) (W : World) : Prop where
  vars : ∃ tk, Vars w.heap.size W (.string s) tk (.int .i64 0) (.int .i64 0) (.bool false) ∧ W.ownsRow (w.heap.size + 7) 37 4 tk ps.length (ps.flatMap fun x => tkL (tokS x))
  below : Below w.heap.size w W

theorem Vars.below' {B : Nat} {w w' : World} {x0 x1 y0 y1 z : Value} (h : Vars B w x0 x1 y0 y1 z) (hb : Below w.heap.size w w') : Vars B w' x0 x1 y0 y1 z :=
  ⟨(hb.block _ (blk_lt h.r)).trans h.r, (hb.block _ (blk_lt h.b)).trans h.b, (hb.block _ (blk_lt h.o)).trans h.o⟩
theorem Vars.put {B : Nat} {w : World} {x0 x1 y0 y1 z : Value} (h : Vars B w x0 x1 y0 y1 z) (r : Nat) (hr : B + 2 < r) (o : Obj) : Vars B (w.putObj r o) x0 x1 y0 y1 z :=
  ⟨(World.putObj_heap_other (by omega)).trans h.r, (World.putObj_heap_other (by omega)).trans h.b, (World.putObj_heap_other (by omega)).trans h.o⟩
theorem RdAt.below' {w : World} {s : ByteArray} {ps : List (Nat × Lx.Piece)} {W W' : World} (h : RdAt w s ps W) (hb : Below W.heap.size W W') : RdAt w s ps W' := by
  obtain ⟨⟨tk, hv, ho⟩, hB⟩ := h
  exact ⟨⟨tk, hv.below' hb, pw_own_below ho hb⟩, below_then hB hb (Nat.le_refl _)⟩
theorem RdAt.put {w : World} {s : ByteArray} {ps : List (Nat × Lx.Piece)} {W : World} (h : RdAt w s ps W) (o : Obj) : RdAt w s ps (W.putObj (w.heap.size + 4 + 1) o) := by
  obtain ⟨⟨tk, hv, ho⟩, hB⟩ := h
  refine ⟨⟨tk, hv.put _ (by omega) o, own_move ho (fun k hk => World.putObj_heap_other (by have := own_base ho k hk; omega))⟩, ?_⟩
  exact ⟨hB.os, hB.tape, hB.output, by simpa using hB.size, fun k hk => (World.putObj_heap_other (by omega)).trans (hB.block k hk)⟩

/-- How read ends. -/
def ReadV (w : World) (s : ByteArray) (ps : List (Nat × Lx.Piece)) (er : Option (Nat × Int)) (e : Ending) (w' : World) : Prop :=
  Below w.heap.size w w' ∧ match er with
    | none => ∃ tk, e = .returned (.tuple #[.agg #[.string s, tk], .agg #[.int .i64 0, .int .i64 0], .bool true]) ∧ w'.ownsRow w.heap.size 37 4 tk ps.length (ps.flatMap fun x => tkL (tokS x))
    | some (p, y) => e = .returned (.tuple #[.agg #[.string ⟨#[]⟩, .slice none 0 0], .agg #[.int .i64 p, .int .i64 y], .bool false])

theorem fold_two (t : Array Value) (p q : Tmp) (u v : Value) : ((#[p, q] : Array Tmp).zip #[u, v]).foldl (fun t (p, v) => t.setIfInBounds p v) t = (t.setIfInBounds p u).setIfInBounds q v := by
  simp [Array.zip]
theorem load_ok (w : World) (a : Addr) (v : Value) (h : w.cell? a = some v) : (loadVar 4 a).run Tryd.prog w = .ok v w := by
  have hu : Tryd.prog.underlying 4 = some .bool := by kernel_rfl
  simp [loadVar, go_sem, hu, h]
theorem results_read (tmps : Array Value) (w : World) (B : Nat) (x0 x1 y0 y1 z : Value) (hv : Vars B w x0 x1 y0 y1 z) (h2 : tmps.getD 2 undef = .pointer (some ⟨B, 0, none⟩)) (h3 : tmps.getD 3 undef = .pointer (some ⟨B + 1, 0, none⟩)) (h4 : tmps.getD 4 undef = .pointer (some ⟨B + 1 + 1, 0, none⟩)) :
    (results Tryd.f39 tmps).run Tryd.prog w = .ok (.tuple #[.agg #[x0, x1], .agg #[y0, y1], z]) w := by
  have h2' : tmps[2]?.getD undef = .pointer (some ⟨B, 0, none⟩) := by simpa using h2
  have h3' : tmps[3]?.getD undef = .pointer (some ⟨B + 1, 0, none⟩) := by simpa using h3
  have h4' : tmps[4]?.getD undef = .pointer (some ⟨B + 1 + 1, 0, none⟩) := by simpa using h4
  have e1 := run_loadVar_row (P := Tryd.prog) w B 63 63 #[x0, x1] (0, 0) ((Tryd.prog.underlying 63).getD .string) hv.r (by kernel_rfl) (by kernel_rfl) (by kernel_rfl)
  have e2 := run_loadVar_row (P := Tryd.prog) w (B + 1) 65 65 #[y0, y1] (0, 0) ((Tryd.prog.underlying 65).getD .string) hv.b (by kernel_rfl) (by kernel_rfl) (by kernel_rfl)
  have e3 := load_ok w ⟨B + 1 + 1, 0, none⟩ z (blk_cell hv.o 0)
  have hr : Tryd.f39.results = #[.cell 2 63, .cell 3 65, .cell 4 4] := rfl
  simp [results, hr, h2', h3', h4', asAddr, e1, e2, e3]

def rdDefers (B : Nat) : List Deferred := [{ target := Target.collected (B + 4), args := #[] }, { target := Target.fn (Fn.func 55) #[.pointer (some ⟨B, 0, none⟩), .pointer (some ⟨B + 1, 0, none⟩), .pointer (some ⟨B + 1 + 1, 0, none⟩)], args := #[] }]
theorem invoke_catch (B : Nat) (w : World) : (invoke (Target.fn (Fn.func 55) #[.pointer (some ⟨B, 0, none⟩), .pointer (some ⟨B + 1, 0, none⟩), .pointer (some ⟨B + 1 + 1, 0, none⟩)]) #[]).run Tryd.prog w =
    .ok (.enter 55 #[.pointer (some ⟨B, 0, none⟩), .pointer (some ⟨B + 1, 0, none⟩), .pointer (some ⟨B + 2, 0, none⟩)]) w := by
  have he := enters_of Tryd.func55 (by kernel_rfl) rfl #[.pointer (some ⟨B, 0, none⟩), .pointer (some ⟨B + 1, 0, none⟩), .pointer (some ⟨B + 1 + 1, 0, none⟩)] w
  simp [invoke, go_sem, he]
theorem leaves_ok {tmps : Array Value} {B : Nat} {W : World} {R : Ending → World → Prop} {x0 x1 y0 y1 z : Value} (hv : Vars B W x0 x1 y0 y1 z) (hd : W.heap[B + 4]? = some (.deferred (some [])))
    (h2 : tmps.getD 2 undef = .pointer (some ⟨B, 0, none⟩)) (h3 : tmps.getD 3 undef = .pointer (some ⟨B + 1, 0, none⟩)) (h4 : tmps.getD 4 undef = .pointer (some ⟨B + 1 + 1, 0, none⟩))
    (hR : R (.returned (.tuple #[.agg #[x0, x1], .agg #[y0, y1], z])) (W.putObj (B + 4) (.deferred none))) : LeavesInM Fence.wide 3 Tryd.prog Tryd.f39 tmps R (rdDefers B) .returning W := by
  refine ⟨by simp, .inl ⟨_, _, rfl, run_takeDeferred hd, ?_⟩⟩
  refine ⟨by simp, .inr ⟨by simp [Fence.wide], _, _, _, _, rfl, invoke_catch B _, fun _ _ => by simp [Fence.wide], (catch_idle _ B _).mono ?_⟩⟩
  rintro e u' w' ⟨rfl, rfl, rfl⟩
  exact ⟨_, results_read tmps _ B _ _ _ _ _ (hv.put _ (by omega) _) h2 h3 h4, hR⟩
theorem leaves_bad {tmps : Array Value} {B : Nat} {W : World} {R : Ending → World → Prop} {x0 x1 y0 y1 z : Value} (hv : Vars B W x0 x1 y0 y1 z) (hd : W.heap[B + 4]? = some (.deferred (some []))) (pos : Nat) (why : Int)
    (h2 : tmps.getD 2 undef = .pointer (some ⟨B, 0, none⟩)) (h3 : tmps.getD 3 undef = .pointer (some ⟨B + 1, 0, none⟩)) (h4 : tmps.getD 4 undef = .pointer (some ⟨B + 1 + 1, 0, none⟩))
    (hR : ∀ W', Below B (W.putObj (B + 4) (.deferred none)) W' → R (.returned (.tuple #[.agg #[.string ⟨#[]⟩, .slice none 0 0], .agg #[.int .i64 pos, .int .i64 why], .bool false])) W') : LeavesInM Fence.wide 3 Tryd.prog Tryd.f39 tmps R (rdDefers B) (.panicking [{ v := wrongV pos why, recovered := false }]) W := by
  refine ⟨by simp, .inl ⟨_, _, rfl, run_takeDeferred hd, ?_⟩⟩
  refine ⟨by simp, .inr ⟨by simp [Fence.wide], _, _, _, _, rfl, invoke_catch B _, fun _ _ => by simp [Fence.wide], (catch_panic _ B _ _ _ _ _ _ (hv.put _ (by omega) _) pos why).mono ?_⟩⟩
  rintro e u' w' ⟨rfl, rfl, hv', hb⟩
  exact ⟨_, results_read tmps _ B _ _ _ _ _ hv' h2 h3 h4, hR _ hb⟩
theorem Vars.setAll {B : Nat} {W : World} {x0 x1 y0 y1 z : Value} (h : Vars B W x0 x1 y0 y1 z) (a b c d e : Value) :
    Vars B (((((W.setCell ⟨B, 0, none⟩ a).setCell ⟨B, 1, none⟩ b).setCell ⟨B + 1, 0, none⟩ c).setCell ⟨B + 1, 1, none⟩ d).setCell ⟨B + 1 + 1, 0, none⟩ e) a b c d e := by
  refine ⟨?_, ?_, ?_⟩
  · refine blk_far (p := ⟨B + 1 + 1, 0, none⟩) ?_ (by show B ≠ B + 1 + 1; omega) _
    refine blk_far (p := ⟨B + 1, 1, none⟩) ?_ (by show B ≠ B + 1; omega) _
    refine blk_far (p := ⟨B + 1, 0, none⟩) ?_ (by show B ≠ B + 1; omega) _
    refine blk_set (cs := #[a, x1]) ?_ 1 _
    exact blk_set (cs := #[x0, x1]) h.r 0 _
  · refine blk_far (p := ⟨B + 1 + 1, 0, none⟩) ?_ (by show B + 1 ≠ B + 1 + 1; omega) _
    refine blk_set (cs := #[c, y1]) ?_ 1 _
    refine blk_set (cs := #[y0, y1]) ?_ 0 _
    refine blk_far (p := ⟨B, 1, none⟩) ?_ (by show B + 1 ≠ B; omega) _
    refine blk_far (p := ⟨B, 0, none⟩) ?_ (by show B + 1 ≠ B; omega) _
    exact h.b
  · refine blk_set (cs := #[z]) ?_ 0 _
    refine blk_far (p := ⟨B + 1, 1, none⟩) ?_ (by show B + 2 ≠ B + 1; omega) _
    refine blk_far (p := ⟨B + 1, 0, none⟩) ?_ (by show B + 2 ≠ B + 1; omega) _
    refine blk_far (p := ⟨B, 1, none⟩) ?_ (by show B + 2 ≠ B; omega) _
    refine blk_far (p := ⟨B, 0, none⟩) ?_ (by show B + 2 ≠ B; omega) _
    exact h.o
theorem heap_setAll (B : Nat) (W : World) (a b c d e : Value) (k : Nat) (hk : k < B ∨ B + 2 < k) : (((((W.setCell ⟨B, 0, none⟩ a).setCell ⟨B, 1, none⟩ b).setCell ⟨B + 1, 0, none⟩ c).setCell ⟨B + 1, 1, none⟩ d).setCell ⟨B + 1 + 1, 0, none⟩ e).heap[k]? = W.heap[k]? := by
  rw [Below.heap_setCell _ _ _ _ (by show k ≠ B + 1 + 1; omega), Below.heap_setCell _ _ _ _ (by show k ≠ B + 1; omega), Below.heap_setCell _ _ _ _ (by show k ≠ B + 1; omega), Below.heap_setCell _ _ _ _ (by show k ≠ B; omega), Below.heap_setCell _ _ _ _ (by show k ≠ B; omega)]
theorem below_setAll {B : Nat} {w W : World} (h : Below B w W) (a b c d e : Value) : Below B w (((((W.setCell ⟨B, 0, none⟩ a).setCell ⟨B, 1, none⟩ b).setCell ⟨B + 1, 0, none⟩ c).setCell ⟨B + 1, 1, none⟩ d).setCell ⟨B + 1 + 1, 0, none⟩ e) :=
  Below.setCell (p := ⟨B + 1 + 1, 0, none⟩) (Below.setCell (p := ⟨B + 1, 1, none⟩) (Below.setCell (p := ⟨B + 1, 0, none⟩) (Below.setCell (p := ⟨B, 1, none⟩) (Below.setCell (p := ⟨B, 0, none⟩) h (Nat.le_refl _) _) (Nat.le_refl _) _) (Nat.le_succ _) _) (Nat.le_succ _) _) (by show B ≤ B + 1 + 1; omega) _
theorem below_putObj {B : Nat} {w W : World} (h : Below B w W) (r : Nat) (hr : B ≤ r) (o : Obj) : Below B w (W.putObj r o) :=
  ⟨h.os, h.tape, h.output, by simpa using h.size, fun k hk => (World.putObj_heap_other (by omega)).trans (h.block k hk)⟩

theorem nd_of_all {ops : Array Oper} (h : ops.toList.all (fun o => match o.op with | .defer _ => false | _ => true) = true) : ∀ (i : Nat) (o : Oper), ops[i]? = some o → ∀ c, o.op ≠ .defer c := by
  intro i o ho c hc
  have hm : o ∈ ops.toList := by
    rw [← Array.getElem?_toList] at ho
    exact List.mem_of_getElem? ho
  have := List.all_eq_true.1 h o hm
  rw [hc] at this
  cases this
theorem wpOp_value {P : Program} {ops : Array Oper} {Q : Exit → Act → World → Prop} {K : Act → World → Prop} {a : Act} {w w' : World} (i : Nat) (o : Oper) (v : Value) (ho : ops[i]? = some o) (hw : Region.wanted o (yielded ops a.tmps) = true)
    (hrun : (execOp a.eval o).run P w = .ok (.value v) w') (h : K (a.put o.dst v) w') : wpOp P ops Q i K a w := by
  unfold wpOp
  simp only [ho, hw, if_true, Oper.wp, hrun, Oper.upon]
  exact .inl h
theorem wpOp_enter {P : Program} {ops : Array Oper} {Q : Exit → Act → World → Prop} {K : Act → World → Prop} {a : Act} {w w' : World} (i : Nat) (o : Oper) (f : FuncId) (args : Array Value) (R : Value → World → Prop) (ho : ops[i]? = some o) (hw : Region.wanted o (yielded ops a.tmps) = true)
    (hrun : (execOp a.eval o).run P w = .ok (.enter f args) w') (hc : Calls P f args w' fun e w'' => ∃ v, e = .returned v ∧ R v w'') (h : ∀ v w'', R v w'' → K (a.put o.dst v) w'') : wpOp P ops Q i K a w := by
  unfold wpOp
  simp only [ho, hw, if_true, Oper.wp, hrun, Oper.upon]
  refine .inl (hc.mono ?_)
  rintro e w'' ⟨v, rfl, hr⟩
  exact h v w'' hr

theorem wpOp_skip {P : Program} {ops : Array Oper} {Q : Exit → Act → World → Prop} {K : Act → World → Prop} {a : Act} {w w' : World} (i : Nat) (o : Oper) (ho : ops[i]? = some o) (hw : Region.wanted o (yielded ops a.tmps) = true)
    (hrun : (execOp a.eval o).run P w = .ok .skip w') (h : K (a.put o.dst undef) w') : wpOp P ops Q i K a w := by
  unfold wpOp
  simp only [ho, hw, if_true, Oper.wp, hrun, Oper.upon]
  exact .inl h
theorem with_tail {P : Program} {md : Region.Mode} {ops : Array Oper} {Q : Exit → Act → World → Prop} {fuel : Nat} {l0 : Array Bool} {a0 : Act} {w0 : World} {rs : List Nat} (C : World → Prop) (l : Array Bool) (a : World → Act) (o : Obj)
    (hT : ∀ w1, C w1 → wpAny P md ops Q 3 l (a w1) (w1.alloc o)) (h : (∀ w1, C w1 → wpAny P md ops Q 3 l (a w1) (w1.alloc o)) → AllReady P md ops Q fuel l0 a0 w0 rs) : AllReady P md ops Q fuel l0 a0 w0 rs := h hT

set_option maxRecDepth 100000 in
set_option maxHeartbeats 4000000 in
theorem read_calls (s : ByteArray) (w : World) (hL : Laid w) (hs : s.size ≤ 4000) (ps : List (Nat × Lx.Piece)) (er : Option (Nat × Int)) (hrd : Lx.readAll s.data.toList = (ps, er)) :
    Calls Tryd.prog 39 #[.string s] w (ReadV w s ps er) := by
  have hmf : ∀ (fn : Fn) (first cap : Array Value) (w : World), (Instr.makeFunc fn first cap).run Tryd.prog w = .ok (.func fn first cap) w := fun _ _ _ _ => rfl
  refine callsIn_wide.1 (callsIn_of_wp_marks (n := 3) Tryd.func39 rfl (by simp [Fence.wide]) (wpIn_wide.2 ?_))
  simp only [Tryd.ntmps39, List.size_toArray, List.length_cons, List.length_nil, Nat.reduceAdd, Nat.reduceSub, Array.replicate_succ, Array.replicate_zero, List.push_toArray, List.append_toArray, List.nil_append, List.cons_append]
  have hrdh := Lib.hid hrd
  clear hrd
  go_wp2_with fail
  refine (pieces_calls s _).mono ?_
  rintro e w1 ⟨rfl, rfl⟩
  go_wp2
  have hK := ‹∀ (a : Act) (w_1 : World), Code.wp _ _ _ a w_1 → _›
  refine gen_world (fun W00 hW => ?_)
  obtain rfl : rdStart w s = W00 := hW
  obtain ⟨W00, hW⟩ : ∃ W00, W00 = rdStart w s := ⟨_, rfl⟩
  rw [← hW]
  have hsz : W00.heap.size = w.heap.size + 4 := by rw [hW, rdStart_size]
  have hvars : Vars w.heap.size W00 _ _ _ _ _ := hW ▸ rdStart_vars w s
  have hsrc : W00.heap[w.heap.size + 3]? = some (.cells #[.string s] 61 (0, 0)) := hW ▸ rdStart_src w s
  have hbel : Below w.heap.size w W00 := hW ▸ rdStart_below w s
  clear hW
  refine wpIn_wide.1 (rf_law (lb := #[.pointer (some ⟨w.heap.size + 3, 0, none⟩)]) (gf := 67) rfl ?eg (pieces_iter w hL s (w.heap.size + 3) (by omega) ps er hrdh.out) ?hps ?hWok ?hIc ?hSt (RdAt w s) (fun _ _ _ => False)
    (fun x a W => ∃ u16 u17 u18 u19 u20 u21 u22 u23 u24 u25 : Value, a = Act.mk #[Value.string s, undef, Value.pointer (some { block := w.heap.size, off := 0 }), Value.pointer (some { block := w.heap.size + 1, off := 0 }),
          Value.pointer (some { block := w.heap.size + 1 + 1, off := 0 }), .int .i64 x.1, encPiece x.2, Value.string s,
          Value.pointer (some { block := w.heap.size, off := 0 }),
          Value.pointer (some { block := w.heap.size, off := 0 }),
          Value.func (Fn.func 55) #[]
            #[Value.pointer (some { block := w.heap.size, off := 0 }),
              Value.pointer (some { block := w.heap.size + 1, off := 0 }),
              Value.pointer (some { block := w.heap.size + 1 + 1, off := 0 })],
          Value.pointer (some { block := w.heap.size, off := 0 }), Value.agg #[Value.string s],
          Value.func (Fn.func 67) #[] #[Value.pointer (some { block := w.heap.size + 1 + 1 + 1, off := 0 })], .int .i64 x.1, encPiece x.2,
          u16, u17, u18, u19, u20, u21, u22, u23, u24, u25] [])
    ?hIst ?hIxst ?hIp ?hIxp ?hAp ?h0 ?hassign ?hbody ?hdone ?hstop ?hfell)
  case eg => exact fun args w' => enters_of Tryd.func67 (by kernel_rfl) rfl args w'
  case hps => intro x; rfl
  case hWok =>
    intro W hb hz
    refine ⟨?_, fun k hk => ?_, by omega⟩
    · exact blk_cell ((hb.block _ (by omega)).trans hsrc) 0
    · exact (hb.block k (by omega)).trans (hbel.block k hk)
  case hIc => intro W k hz hk; omega
  case hSt => intro W0 W W' hz hz2 hb k hk; exact hb.block k (by omega)
  case hIst => intro p W0 W W' _ hi hb; exact hi.below' hb
  case hIxst => intro c p W0 W W' _ hi _; exact hi
  case hIp => intro p W o hi; rw [hsz]; exact hi.put o
  case hIxp => intro c p W o hi; exact hi
  case hAp => intro x a W o h; exact h
  case h0 =>
    intro W hb hz
    exact ⟨⟨_, hvars.below' hb, own_nil _ _ _ _⟩, below_then hbel hb (by omega)⟩
  case hassign =>
    intro pre x W K hi hm hz hK
    simp only [encAt]
    rw [fold_two]
    change Code.wpIn _ 1 _ _ _ (Act.mk #[Value.string s, undef, Value.pointer (some { block := w.heap.size, off := 0 }), Value.pointer (some { block := w.heap.size + 1, off := 0 }),
          Value.pointer (some { block := w.heap.size + 1 + 1, off := 0 }), undef, undef, Value.string s,
          Value.pointer (some { block := w.heap.size, off := 0 }),
          Value.pointer (some { block := w.heap.size, off := 0 }),
          Value.func (Fn.func 55) #[]
            #[Value.pointer (some { block := w.heap.size, off := 0 }),
              Value.pointer (some { block := w.heap.size + 1, off := 0 }),
              Value.pointer (some { block := w.heap.size + 1 + 1, off := 0 })],
          Value.pointer (some { block := w.heap.size, off := 0 }), Value.agg #[Value.string s],
          Value.func (Fn.func 67) #[] #[Value.pointer (some { block := w.heap.size + 1 + 1 + 1, off := 0 })], .int .i64 x.1, encPiece x.2,
          undef, undef, undef, undef, undef, undef, undef, undef, undef, undef] []) W
    gi_wp2
    exact hK _ _ ⟨_, _, _, _, _, _, _, _, _, _, rfl⟩ hi (KeepI.refl _)
  case hbody =>
    rintro W0 pre x a' W hz0 hz hIc hi ⟨u16, u17, u18, u19, u20, u21, u22, u23, u24, u25, rfl⟩ hm
    refine wpIn_block ?_
    refine wpIn_region_round (by kernel_rfl) (fun _ _ h => h) (nd_of_all rfl) ?_
    refine wpAny_take (i := 0) (v := .pointer (some ⟨w.heap.size, 1, none⟩)) (fuel := 8) rfl (by kernel_rfl) (by kernel_rfl) (by kernel_rfl) (fun _ _ _ h => h) (.inl ⟨rfl, fun w' => by simp [go_sem, execOp]⟩) ?_
    refine wpAny_take (i := 2) (v := encPiece x.2) (fuel := 7) rfl (by kernel_rfl) (by kernel_rfl) (by kernel_rfl) (fun _ _ _ h => h) (.inl ⟨rfl, fun w' => by simp [go_sem, execOp]⟩) ?_
    refine wpAny_take (i := 3) (v := .int .i64 x.1) (fuel := 6) rfl (by kernel_rfl) (by kernel_rfl) (by kernel_rfl) (fun _ _ _ h => h) (.inl ⟨rfl, fun w' => by simp [go_sem, execOp]⟩) ?_
    refine wpAny_ready (rs := [1, 4]) (by kernel_rfl) (by simp) ?_
    obtain ⟨⟨tk, hv, ho⟩, hB⟩ := hi
    have a1 := blk_cell hv.r 1
    simp only [List.getElem?_toArray, List.getElem?_cons_zero, List.getElem?_cons_succ] at a1
    obtain ⟨A, c, rfl⟩ := own_slice ho
    have hW7 : w.heap.size + 7 ≤ W.heap.size := by have := hIc W0.heap.size (.inr (.inr rfl)); omega
    have hpl := readAll_len s.data.toList
    rw [hrdh.out] at hpl
    simp at hpl
    refine with_tail (fun w1 => Below W.heap.size W w1) #[true, true, true, true, true, true, false, false, false] (fun w1 => Act.mk #[Value.string s, undef, Value.pointer (some { block := w.heap.size, off := 0 }), Value.pointer (some { block := w.heap.size + 1, off := 0 }),
          Value.pointer (some { block := w.heap.size + 1 + 1, off := 0 }), .int .i64 x.1, encPiece x.2, Value.string s,
          Value.pointer (some { block := w.heap.size, off := 0 }),
          Value.pointer (some { block := w.heap.size, off := 0 }),
          Value.func (Fn.func 55) #[]
            #[Value.pointer (some { block := w.heap.size, off := 0 }),
              Value.pointer (some { block := w.heap.size + 1, off := 0 }),
              Value.pointer (some { block := w.heap.size + 1 + 1, off := 0 })],
          Value.pointer (some { block := w.heap.size, off := 0 }), Value.agg #[Value.string s],
          Value.func (Fn.func 67) #[] #[Value.pointer (some { block := w.heap.size + 1 + 1 + 1, off := 0 })], .int .i64 x.1, encPiece x.2,
          .pointer (some ⟨w.heap.size, 1, none⟩), .slice A pre.length c, encPiece x.2, .int .i64 x.1, .agg (tokCs (tokS x)), .slice (some ⟨w1.heap.size, 0, none⟩) 1 1, u22, u23, u24, u25] []) (.cells (tkL (tokS x)).toArray 37 (0, 0)) ?_ (fun tail => ?_)
    · intro w1 hb1
      refine wpAny_ready (rs := [6]) (by kernel_rfl) (by simp) ?_
      intro i hi
      obtain rfl : i = 6 := by simpa using hi
      refine wpOp_step rfl (fun K' hK' => step_append_cells (w0 := W) (W := w1) (w.heap.size + 7) rfl (.tmp 17) (.tmp 21) 30 37 (.agg #[.int .i64 0, .string ⟨#[]⟩, .int .i64 0, .int .i64 0]) 4 40 rfl (by kernel_rfl) (by kernel_rfl) rfl (by omega) (by omega) (.slice A pre.length c) pre.length (pre.flatMap fun x => tkL (tokS x)) (tkL (tokS x)) rfl rfl rfl (by simp [tkL, Value.oneCell']) (pw_own_below ho hb1) ?_ ?_ ?_ ?_)
      · exact hb1.mono hW7
      · exact Nat.le_trans hW7 hb1.size
      · have := hm.length_le
        simp at this
        omega
      · intro v1 w2 hown hbel2 hgr hat
        refine hK' _ _ ?_
        obtain ⟨A1, c1, rfl⟩ := own_slice hown
        refine wpAny_ready (rs := [7]) (by kernel_rfl) (by simp) ?_
        intro i hi
        obtain rfl : i = 7 := by simpa using hi
        refine wpOp_value 7 _ (.pointer (some ⟨w.heap.size, 1, none⟩)) rfl rfl (w' := w2) (by simp [go_sem, execOp]) ?_
        refine wpAny_ready (rs := [8]) (by kernel_rfl) (by simp) ?_
        intro i hi
        obtain rfl : i = 8 := by simpa using hi
        have hr2 : w2.heap[w.heap.size]? = some (.cells #[.string s, .slice A pre.length c] 63 (0, 0)) := (hbel2.block _ (by omega)).trans hv.r
        have d1 := blk_cell hr2 1
        have f1 := blk_frozen hr2 1
        simp only [List.getElem?_toArray, List.getElem?_cons_zero, List.getElem?_cons_succ] at d1
        refine wpOp_skip 8 _ rfl rfl (w' := w2.setCell ⟨w.heap.size, 1, none⟩ (.slice A1 (pre.length + 1) c1)) (by simp [go_sem, execOp, d1, f1]) ?_
        refine ⟨by kernel_rfl, ⟨?_, ?_⟩, ⟨.slice A1 (pre.length + 1) c1, ⟨?_, ?_, ?_⟩, ?_⟩, ?_⟩
        · simpa using hbel2.size
        · intro k hk
          rw [Below.heap_setCell _ _ _ _ (by show k ≠ w.heap.size; omega)]
          exact hbel2.block k (by omega)
        · exact blk_set (cs := #[.string s, .slice A pre.length c]) hr2 1 _
        · exact blk_far ((hbel2.block _ (by omega)).trans hv.b) (p := ⟨w.heap.size, 1, none⟩) (by show w.heap.size + 1 ≠ w.heap.size; omega) _
        · exact blk_far ((hbel2.block _ (by omega)).trans hv.o) (p := ⟨w.heap.size, 1, none⟩) (by show w.heap.size + 2 ≠ w.heap.size; omega) _
        · rw [List.flatMap_append, List.length_append]
          simp only [List.flatMap_cons, List.flatMap_nil, List.append_nil, List.length_cons, List.length_nil, Nat.zero_add]
          refine own_move hown (fun k hk => Below.heap_setCell _ _ _ _ ?_)
          have := own_base hown k hk
          show k ≠ w.heap.size
          omega
        · exact Below.setCell (p := ⟨w.heap.size, 1, none⟩) (hB.trans (hbel2.mono (by omega))) (Nat.le_refl _) _
    · have htok : ∀ w' : World, w'.heap = W.heap → Calls Tryd.prog (tokNo x.2) #[payOf x.2, .int .i64 x.1] W.drew fun e w'' => ∃ v, e = .returned v ∧ (v = .agg (tokCs (tokS x)) ∧ Below W.heap.size W w'') := fun _ _ => by
        have hLW : Laid W.drew := (hL.below hB).drew'
        refine (token_calls x.2 x.1 W.drew hLW).mono ?_
        rintro e w'' ⟨rfl, hb⟩
        exact ⟨_, rfl, rfl, ⟨hb.os, hb.tape, hb.output, hb.size, hb.block⟩⟩
      intro i hi
      rcases List.mem_cons.1 hi with rfl | hi
      · refine wpOp_value 1 _ (.slice A pre.length c) rfl rfl (w' := W.drew) (by simp [go_sem, execOp, a1]) ?_
        refine wpAny_ready (rs := [4]) (by kernel_rfl) (by simp) ?_
        intro i hi
        obtain rfl : i = 4 := by simpa using hi
        refine wpOp_enter 4 _ (tokNo x.2) #[payOf x.2, .int .i64 x.1] (fun v w' => v = .agg (tokCs (tokS x)) ∧ Below W.heap.size W w') rfl rfl (w' := W.drew) ?_ (htok W rfl) ?_
        · rw [encPiece_eq]
          simp [go_sem, execOp]
          obtain ⟨q, p⟩ := x
          cases p <;> kernel_rfl
        · rintro v w1 ⟨rfl, hb1⟩
          refine wpAny_ready (rs := [5]) (by kernel_rfl) (by simp) ?_
          intro i hi
          obtain rfl : i = 5 := by simpa using hi
          refine wpOp_value 5 _ (.slice (some ⟨w1.heap.size, 0, none⟩) 1 1) rfl rfl (w' := w1.alloc (.cells (tkL (tokS x)).toArray 37 (0, 0))) (by simp [go_sem, execOp, tokCs, tkL]) (tail w1 hb1)
      · obtain rfl : i = 4 := by simpa using hi
        refine wpOp_enter 4 _ (tokNo x.2) #[payOf x.2, .int .i64 x.1] (fun v w' => v = .agg (tokCs (tokS x)) ∧ Below W.heap.size W w') rfl rfl (w' := W.drew) ?_ (htok W rfl) ?_
        · rw [encPiece_eq]
          simp [go_sem, execOp]
          obtain ⟨q, p⟩ := x
          cases p <;> kernel_rfl
        · rintro v w1 ⟨rfl, hb1⟩
          have e1 : w1.cell? ⟨w.heap.size, 1, none⟩ = some (.slice A pre.length c) := by
            have hr1 : w1.heap[w.heap.size]? = some (.cells #[.string s, .slice A pre.length c] 63 (0, 0)) := (hb1.block _ (by omega)).trans hv.r
            exact blk_cell hr1 1
          have e2 : (w1.alloc (.cells (tkL (tokS x)).toArray 37 (0, 0))).cell? ⟨w.heap.size, 1, none⟩ = some (.slice A pre.length c) := by
            have hr1 : (w1.alloc (.cells (tkL (tokS x)).toArray 37 (0, 0))).heap[w.heap.size]? = some (.cells #[.string s, .slice A pre.length c] 63 (0, 0)) := blk_alloc ((hb1.block _ (by omega)).trans hv.r) _
            exact blk_cell hr1 1
          refine wpAny_ready (rs := [1, 5]) (by kernel_rfl) (by simp) ?_
          intro i hi
          rcases List.mem_cons.1 hi with rfl | hi
          · refine wpOp_value 1 _ (.slice A pre.length c) rfl rfl (w' := w1) (by simp [go_sem, execOp, e1]) ?_
            refine wpAny_ready (rs := [5]) (by kernel_rfl) (by simp) ?_
            intro i hi
            obtain rfl : i = 5 := by simpa using hi
            refine wpOp_value 5 _ (.slice (some ⟨w1.heap.size, 0, none⟩) 1 1) rfl rfl (w' := w1.alloc (.cells (tkL (tokS x)).toArray 37 (0, 0))) (by simp [go_sem, execOp, tokCs, tkL]) (tail w1 hb1)
          · obtain rfl : i = 5 := by simpa using hi
            refine wpOp_value 5 _ (.slice (some ⟨w1.heap.size, 0, none⟩) 1 1) rfl rfl (w' := w1.alloc (.cells (tkL (tokS x)).toArray 37 (0, 0))) (by simp [go_sem, execOp, tokCs, tkL]) ?_
            refine wpAny_ready (rs := [1]) (by kernel_rfl) (by simp) ?_
            intro i hi
            obtain rfl : i = 1 := by simpa using hi
            exact wpOp_value 1 _ (.slice A pre.length c) rfl rfl (w' := w1.alloc (.cells (tkL (tokS x)).toArray 37 (0, 0))) (by simp [go_sem, execOp, e2]) (tail w1 hb1)
  case hdone =>
    rintro xs W ⟨rfl, rfl⟩ hi hd
    obtain ⟨⟨tk, hv, ho⟩, hB⟩ := hi
    have a0 := blk_cell hv.r 0
    have a1 := blk_cell hv.r 1
    have b0 := blk_cell hv.b 0
    have b1 := blk_cell hv.b 1
    have o0 := blk_cell hv.o 0
    have fa0 := blk_frozen hv.r 0
    have fa1 := blk_frozen hv.r 1
    have fb0 := blk_frozen hv.b 0
    have fb1 := blk_frozen hv.b 1
    have fo0 := blk_frozen hv.o 0
    simp only [List.getElem?_toArray, List.getElem?_cons_zero, List.getElem?_cons_succ] at a0 a1 b0 b1 o0
    have hvh := Lib.hid hv
    have hoh := Lib.hid ho
    have hdh := Lib.hid hd
    have hBh := Lib.hid hB
    clear hv ho hd hB
    refine hK _ _ ?_
    obtain ⟨A, c, rfl⟩ := own_slice hoh.out
    go_wp2
    refine leaves_ok (B := w.heap.size) (hvh.out.setAll _ _ _ _ _) ?_ rfl rfl rfl ⟨?_, ?_⟩
    · rw [heap_setAll _ _ _ _ _ _ _ _ (by omega), ← hsz]
      exact hdh.out
    · exact below_putObj (below_setAll hBh.out _ _ _ _ _) _ (by omega) _
    · refine ⟨_, rfl, own_weaken (own_move hoh.out (fun k hk => ?_)) (by omega)⟩
      have := own_base hoh.out k hk
      rw [World.putObj_heap_other (by omega), heap_setAll _ _ _ _ _ _ _ _ (by omega)]
  case hstop => intro c pre W h; exact h.elim
  case hfell =>
    rintro chain xs W ⟨rfl, pos, why, rfl, rfl⟩ hi hd
    obtain ⟨⟨tk, hv, ho⟩, hB⟩ := hi
    rw [hsz] at hd ⊢
    refine leaves_bad (B := w.heap.size) hv hd pos why rfl rfl rfl (fun W' hb => ⟨?_, rfl⟩)
    exact (below_putObj hB _ (by omega) _).trans hb
end Go.Proofs.YtkijoeihkajlcaaDoor
