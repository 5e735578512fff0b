/-
  LexJoined answers true for every input: the row and its tied card.
-/
import Derived.Test.YtkijoeihkajlcaaDoorMc
import Derived.Maps.AppendAt
import Derived.Test.YtkijoeihkajlcaaDoorMp
import Derived.Test.YtkijoeihkajlcaaDoorRAll6
import Derived.Test.YtkijoeihkajlcaaDoorRows
import Derived.Test.YtkijoeihkajlcaaDoorCards
import Derived.Test.YtkijoeihkajlcaaDoorTie
import Derived.Lib.LaidTab
import Derived.Stop.LaidErr
import Derived.ProofKit
import Derived.OpenShut
import Derived.LaidMore
import Derived.Lay
import Derived.ChangeMaps5
import Derived.SevenTiedAt
import Derived.Stop.Joined

set_option linter.unusedVariables false
set_option linter.unusedSimpArgs false
namespace Go.Proofs.YtkijoeihkajlcaaDoor
open Go.RowKit Go.Shelf
open Go.Proofs.YtkijoeihkajlcaaDoorW.PrintWords (Kd OwnRow Reps own_nil own_slice own_weaken own_base pw_own_below blk_new blk_cell add_field print_append_cells)

theorem flat_get : ∀ (us : List Tk) (j : Nat), (us.flatMap tkL)[j]? = (us[j / 4]?).bind fun t => (tkL t)[j % 4]?
  | [], j => by simp
  | t :: us, j => by
    rw [List.flatMap_cons]
    by_cases h : j < 4
    · rw [List.getElem?_append_left (by show j < 4; exact h), show j / 4 = 0 by omega, show j % 4 = j by omega]
      rfl
    · rw [List.getElem?_append_right (by show 4 ≤ j; omega), show (tkL t).length = 4 from rfl, flat_get us (j - 4)]
      have e1 : (j - 4) % 4 = j % 4 := by omega
      have e2 : j / 4 = (j - 4) / 4 + 1 := by omega
      rw [e1, e2, List.getElem?_cons_succ]
theorem flat_len (us : List Tk) : (us.flatMap tkL).length = us.length * 4 := by
  induction us with
  | nil => rfl
  | cons t us ih => rw [List.flatMap_cons, List.length_append, ih, List.length_cons]; show 4 + _ = _; omega
theorem flat_cells {W : World} {ad : Addr} {m : Nat} {us : List Tk} (h : Kd.C kTk W (some ad) m us) : ∀ j u, (us.flatMap tkL)[j]? = some u → W.cell? (ad.add j) = some u := by
  intro j u hu
  rw [flat_get] at hu
  obtain ⟨t, ht, hu⟩ := Option.bind_eq_some_iff.1 hu
  have hj : j / 4 < us.length := (List.getElem?_eq_some_iff.1 ht).1
  obtain ⟨h1, h2, h3⟩ := h
  obtain ⟨ad', e, hc⟩ := h3 (by omega)
  cases e
  obtain ⟨c, hcl, hK, hcc⟩ := hc _ t ht
  obtain rfl := kTk_open hK
  have := hcc _ u hu
  have e : j / 4 * kTk.sz + j % 4 = j := by
    show j / 4 * 4 + j % 4 = j
    omega
  rwa [e] at this
theorem flat_one (us : List Tk) : ∀ u ∈ us.flatMap tkL, u.oneCell' = true := by
  intro u hu
  obtain ⟨t, _, h⟩ := List.mem_flatMap.1 hu
  simp only [tkL, List.mem_cons, List.not_mem_nil, or_false] at h
  rcases h with rfl | rfl | rfl | rfl <;> rfl
def zTokV : Value := .agg #[.int .i64 0, .string ⟨#[]⟩, .int .i64 0, .int .i64 0]
theorem tok_info : (Tryd.prog.info? 37).map (fun i => (i.zero, i.size, i.bytes)) = some (some zTokV, 4, 40) := by kernel_rfl

theorem append_toks {w0 W : World} {ops : Array Oper} {rest : List Oper} {o : Oper} {a : Act} {Q : Exit → Act → World → Prop} (base : Nat) (hgd : o.guard = none) (s x : Operand)
    (ho : o.op = .call { callee := .builtin .append, args := #[s, x], argTypes := #[30, 30] })
    (v : Value) (ts us : List Tk) (A : Option Addr) (m c : Nat) (hs : a.eval s = v) (hx : a.eval x = .slice A m c)
    (HO : OwnToks W base v ts) (HR : Kd.C kTk W A m us) (HB : Below base w0 W) (hbase : base ≤ W.heap.size) (hl : (ts.length + m) ≤ 10000)
    (h : ∀ v1 w1, OwnToks w1 base v1 (ts ++ us) → Below base w0 w1 → wpList Tryd.prog ops Q rest (a.put o.dst v1) w1) :
    wpList Tryd.prog ops Q (o :: rest) a W := by
  obtain ⟨i0, hi, hzz⟩ := Option.map_eq_some_iff.1 tok_info
  simp only [Prod.mk.injEq] at hzz
  obtain ⟨hz0, hz1, hz2⟩ := hzz
  have hm : us.length = m := HR.1
  have ht : Tryd.prog.underlying 30 = some (.slice 37) := by kernel_rfl
  unfold OwnToks at HO
  have hrun : ∃ v1 w1, (Builtin.append_ #[30, 30] o.type #[v, .slice A m c]).run Tryd.prog W = .ok v1 w1 ∧ OwnToks w1 base v1 (ts ++ us) ∧ W.grownBy w1 v.ownBlock := by
    rcases A with _ | ad
    · have h0 : m = 0 := by
        rcases Nat.eq_zero_or_pos m with h0 | h0
        · exact h0
        · obtain ⟨ad, h, _⟩ := HR.2.2 h0
          cases h
      subst h0
      obtain rfl : us = [] := List.eq_nil_of_length_eq_zero hm
      refine ⟨v, W, ?_, by simpa [OwnToks] using HO, World.grownBy.refl W _⟩
      rcases HO.2 with ⟨rfl, hn⟩ | ⟨g, cap, cur, rfl, _, _, hnc, _⟩
      · simp [Builtin.append_, run_underlying ht, sizeOf, typeInfo, hi, Builtin.lenOf, Builtin.firstCells]
      · simp [Builtin.append_, run_underlying ht, sizeOf, typeInfo, hi, Builtin.lenOf, Builtin.firstCells, hnc, storeCells]
    · obtain ⟨v1, w1, hr, h2, h3, _, _⟩ := run_append_own_at (P := Tryd.prog) W base 30 o.type 37 i0 zTokV 4 40 ht hi hz0 hz1 hz2 rfl (by omega) v ts.length (ts.flatMap tkL) HO ad m c (us.flatMap tkL) (by rw [flat_len, hm]) (flat_cells HR) (flat_one us)
        (by have : (10000 : Nat) ≤ maxLen := by decide
            omega) (by omega) hbase
      refine ⟨v1, w1, hr, ?_, h3⟩
      unfold OwnToks
      rw [List.flatMap_append, List.length_append, hm]
      exact h2
  obtain ⟨v1, w1, hr, hown, hg⟩ := hrun
  refine wpList_plain hgd fun K hK => ?_
  unfold Oper.wp execOp
  simp only [ho, resolve, invoke, builtin, Sem.run_bind, Sem.run_pure, Result.andThen_ok, List.map_toArray, List.map_cons, List.map_nil, hs, hx, hr]
  exact hK _ _ (h v1 w1 hown (HB.grown hg hbase (own_base HO)))

/-- A token that begins so many bytes later. -/
def movedT (by_ : Int) (t : Tk) : Tk := ⟨t.f0, t.f1, t.f2, t.f3 + by_⟩
set_option maxRecDepth 100000 in
set_option maxHeartbeats 4000000 in
theorem moved_calls (A : Option Addr) (c : Nat) (ts : List Tk) (by_ : Int) (w : World) (hr : Kd.C kTk w A ts.length ts) (hc : ts.length ≤ c) (hn : ts.length ≤ 1000) (hb0 : 0 ≤ by_) (hb1 : by_ ≤ 10000) (hp : ∀ t ∈ ts, 0 ≤ t.f3 ∧ t.f3 ≤ 10000) :
    Calls Tryd.prog 22 #[.slice A ts.length c, .int .i64 by_] w fun e w' => (∃ v, e = .returned v ∧ OwnToks w' w.heap.size v (ts.map (movedT by_))) ∧ Below w.heap.size w w' := by
  have hrh := Lib.hid hr
  have hph := Lib.hid hp
  clear hr hp
  go_enter Tryd.func22, Tryd.ntmps22
  go_wp2
  go_loopg [5, 6] ts.length (fun g v5 v6 wr => ∃ (X : Value) (i : Nat), X = v5 ∧ v6 = .int .i64 i ∧ i ≤ ts.length ∧ Hid (g + i = ts.length) ∧ Hid (OwnToks wr w.heap.size v5 ((ts.take i).map (movedT by_))) ∧ Hid (Below w.heap.size w wr))
  case atStart => exact ⟨_, 0, rfl, rfl, Nat.zero_le _, Lib.hid rfl, Lib.hid (OwnToks.nil _ _), Lib.hid (Below.refl _ _)⟩
  case round =>
    obtain ⟨X, i, rfl, rfl, hi, hg, hown, hB⟩ := hrel
    by_cases hlt : i < ts.length
    · obtain ⟨ad, rfl, d0, d1, d2, d3⟩ := at_Tk (Kd.C_below hrh.out hB.out) i (by omega) (by omega)
      simp only [Int.toNat_natCast] at d0 d1 d2 d3
      have hmem : ts.getD i zTk ∈ ts := by
        rw [List.getD_eq_getElem?_getD, List.getElem?_eq_getElem hlt]
        exact List.getElem_mem hlt
      obtain ⟨hp0, hp1⟩ := hph.out _ hmem
      have hgi : ts[i] = ts.getD i zTk := by rw [List.getD_eq_getElem?_getD, List.getElem?_eq_getElem hlt]; rfl
      obtain ⟨t, ht⟩ : ∃ t, t = ts.getD i zTk := ⟨_, rfl⟩
      rw [← ht] at d0 d1 d2 d3 hp0 hp1 hgi
      have htake := Lib.hid (show (ts.take (i + 1)).map (movedT by_) = (ts.take i).map (movedT by_) ++ [movedT by_ t] by
        rw [List.take_succ_eq_append_getElem hlt, hgi, List.map_append]
        rfl)
      clear hmem ht hgi
      have hBx := Lib.hid (hB.out.alloc hB.out.size (.cells #[.int .i64 t.f0, .string t.f1, .int .i64 t.f2, .int .i64 (t.f3 + by_)] 37 (0, 0)))
      have hownx := Lib.hid (show OwnToks (wr.alloc (.cells #[.int .i64 t.f0, .string t.f1, .int .i64 t.f2, .int .i64 (t.f3 + by_)] 37 (0, 0))) w.heap.size X ((ts.take i).map (movedT by_)) from pw_own_below hown.out ((Below.refl wr.heap.size wr).alloc (Nat.le_refl _) _))
      have hlen : ((ts.take i).map (movedT by_)).length = i := by rw [List.length_map, List.length_take]; omega
      go_wp2_with (at_builtin; refine print_append_cells (w0 := w) (W := wr.alloc (.cells #[.int .i64 t.f0, .string t.f1, .int .i64 t.f2, .int .i64 (t.f3 + by_)] 37 (0, 0))) w.heap.size rfl _ _ 30 37 zTokV 4 40 rfl (by kernel_rfl) tok_info rfl (by omega) (by omega) X ((ts.take i).map (movedT by_)).length _ (tkL (movedT by_ t)) rfl (by simp; rfl) rfl (by simp [tkL, Value.oneCell']) hownx.out hBx.out (by have := hBx.out.size; omega) (by rw [hlen]; omega) ?_; intro v1 w2 hown2 hB2 _ _; have hown2h := Lib.hid (show OwnToks w2 w.heap.size v1 ((ts.take (i + 1)).map (movedT by_)) by rw [htake.out]; unfold OwnToks; rw [List.flatMap_append, List.length_append]; exact hown2); have hB2h := Lib.hid hB2; clear hown2 hB2)
      go_roundg (ts.length - (i + 1))
      case measure => have := hg.out; omega
      case rel => exact ⟨_, i + 1, rfl, by go_num, by omega, Lib.hid (by omega), hown2h, hB2h⟩
    · have hfin : (ts.take i).map (movedT by_) = ts.map (movedT by_) := by rw [List.take_of_length_le (by omega)]
      go_wp2
      go_ret
      exact ⟨⟨_, rfl, by have := hown.out; rw [hfin] at this; exact this⟩, hB.out⟩
end Go.Proofs.YtkijoeihkajlcaaDoor

set_option linter.unusedVariables false
set_option linter.unusedSimpArgs false
namespace Go.Proofs.YtkijoeihkajlcaaDoor.PAll
open Go.RowKit Go.Shelf
open Go.Proofs.YtkijoeihkajlcaaDoorW.PrintWords

theorem bt_nat (s : ByteArray) (i : Nat) (h : i < s.size) : bt s (i : Int) = (s[i].toNat : Int) := by
  rw [← bt_at s i (by simpa using h)]
  rfl
theorem wrap_nat (n : Nat) (h : n < 9223372036854775807) : wrap64 ((n : Int)) = n := by unfold wrap64; omega
theorem wrap_succ (n : Nat) (h : n < 9223372036854775807) : wrap64 ((n : Int) + 1) = ((n + 1 : Nat) : Int) := by unfold wrap64; omega
theorem Ev.ite_pos {α : Type} {c : Prop} [Decidable c] {g f : Nat → Option α} {r : α} (hc : c) (h : Ev g r) : Ev (fun n => if c then g n else f n) r := by simpa [hc] using h
theorem Ev.ite_neg {α : Type} {c : Prop} [Decidable c] {g f : Nat → Option α} {r : α} (hc : ¬ c) (h : Ev f r) : Ev (fun n => if c then g n else f n) r := by simpa [hc] using h
theorem blank_f (c : UInt8) : swardref02_blank.f (c.toNat : Int) = some (Lx.isBlank c) := by
  unfold swardref02_blank.f Lx.isBlank
  split
  · rename_i h; have : c.toNat = 32 := by omega
    simp [this]
  · split
    · rename_i h1 h; have : c.toNat = 9 := by omega
      simp [this]
    · rename_i h1 h2
      have a : (c.toNat == 32) = false := by simp; omega
      have b : (c.toNat == 9) = false := by simp; omega
      rw [a, b, Bool.false_or, Bool.false_or]
      congr 1
      rw [Bool.eq_iff_iff, beq_iff_eq, beq_iff_eq]
      omega
theorem Ev.succ {α : Type} {g : Nat → Option α} {r : α} (h : Ev (fun k => g (k + 1)) r) : Ev g r := Ev.step (fun _ => rfl) h
theorem ev_skip (s : ByteArray) (hs : s.size ≤ 4200) : ∀ (n i : Nat), i ≤ s.size → s.size - i = n →
    Ev (fun k => swardref02_skip.l0 k s i) ((i + Lx.skipF false (s.data.toList.drop i) : Nat) : Int) ∧ Ev (fun k => swardref02_skip.l1 k s i) ((i + Lx.skipF true (s.data.toList.drop i) : Nat) : Int) := by
  intro n
  induction n with
  | zero =>
    intro i hi hn
    have he : s.data.toList.drop i = [] := List.drop_of_length_le (by simp; omega)
    have h1 : ¬ ((i : Int) < (s.size : Int)) := by omega
    have h0 : Ev (fun k => swardref02_skip.l0 k s i) ((i + Lx.skipF false (s.data.toList.drop i) : Nat) : Int) := by
      rw [he]
      refine Ev.succ (Ev.succ ?_)
      simp only [swardref02_skip.l0, swardref02_skip.j1, h1, if_false, Bool.false_eq_true]
      exact Ev.now _
    refine ⟨h0, Ev.succ ?_⟩
    simp only [swardref02_skip.l1, h1, if_false]
    rw [he] at h0 ⊢
    exact h0
  | succ n ih =>
    intro i hi hn
    have hlt : i < s.size := by omega
    obtain ⟨ih0, ih1⟩ := ih (i + 1) (by omega) (by omega)
    have hd := drop_cons s i hlt
    rw [hd]
    have hb := bt_nat s i hlt
    have hw := wrap_succ i (by omega)
    have h1 : (i : Int) < (s.size : Int) := by omega
    have h2 : (0 : Int) ≤ (i : Int) := by omega
    have h0 : Ev (fun k => swardref02_skip.l0 k s i) ((i + Lx.skipF false (s[i] :: s.data.toList.drop (i + 1)) : Nat) : Int) := by
      by_cases hbl : Lx.isBlank s[i] = true
      · have hn35 : ¬ ((s[i].toNat : Int) = 35) := by
          intro h
          have : s[i].toNat = 35 := by omega
          simp [Lx.isBlank, this] at hbl
        refine Ev.succ (Ev.succ ?_)
        simp only [swardref02_skip.l0, swardref02_skip.j1, h1, h2, if_true, hb, blank_f, Option.bind_some, hbl, hn35, if_false, hw]
        simp only [Lx.skipF, hbl, if_true]
        rw [show i + (Lx.skipF false (s.data.toList.drop (i + 1)) + 1) = i + 1 + Lx.skipF false (s.data.toList.drop (i + 1)) by omega]
        exact ih0
      · by_cases h35 : s[i].toNat = 35
        · have e35 : ((s[i].toNat : Int) == 35) = true := by simp; omega
          have f35 : (s[i].toNat : Int) = 35 := by omega
          have f10 : ¬ (35 : Int) = 10 := by omega
          refine Ev.succ (Ev.succ (Ev.succ ?_))
          simp only [swardref02_skip.l0, swardref02_skip.j1, swardref02_skip.l1, h1, h2, if_true, hb, blank_f, Option.bind_some, hbl, e35, f35, if_false, Bool.false_eq_true, f10, hw, beq_self_eq_true]
          simp only [Lx.skipF, hbl, if_false, Bool.false_eq_true, h35, if_true]
          rw [show i + (Lx.skipF true (s.data.toList.drop (i + 1)) + 1) = i + 1 + Lx.skipF true (s.data.toList.drop (i + 1)) by omega]
          exact ih1
        · have e35 : ((s[i].toNat : Int) == 35) = false := by simp; omega
          refine Ev.succ (Ev.succ ?_)
          simp only [swardref02_skip.l0, swardref02_skip.j1, h1, h2, if_true, hb, blank_f, Option.bind_some, hbl, e35, if_false, Bool.false_eq_true]
          simp only [Lx.skipF, hbl, if_false, Bool.false_eq_true, h35, Nat.add_zero]
          exact Ev.now _
    refine ⟨h0, ?_⟩
    by_cases h10 : s[i].toNat = 10
    · have f10 : (s[i].toNat : Int) = 10 := by omega
      refine Ev.succ ?_
      simp only [swardref02_skip.l1, h1, h2, if_true, hb, f10]
      have : Lx.skipF true (s[i] :: s.data.toList.drop (i + 1)) = Lx.skipF false (s[i] :: s.data.toList.drop (i + 1)) := by
        simp [Lx.skipF, Lx.notNl, Lx.isBlank, h10]
      rw [this]
      exact h0
    · have f10 : ¬ ((s[i].toNat : Int) = 10) := by omega
      refine Ev.succ ?_
      simp only [swardref02_skip.l1, h1, h2, if_true, hb, f10, if_false, hw]
      have : Lx.skipF true (s[i] :: s.data.toList.drop (i + 1)) = Lx.skipF true (s.data.toList.drop (i + 1)) + 1 := by
        simp [Lx.skipF, Lx.notNl, h10]
      rw [this, show i + (Lx.skipF true (s.data.toList.drop (i + 1)) + 1) = i + 1 + Lx.skipF true (s.data.toList.drop (i + 1)) by omega]
      exact ih1
theorem ev_skip_f (s : ByteArray) (hs : s.size ≤ 4200) (i : Nat) (hi : i ≤ s.size) : Ev (fun k => swardref02_skip.f k s i) ((i + Lx.skipL (s.data.toList.drop i) : Nat) : Int) := (ev_skip s hs _ i hi rfl).1
theorem letter_f (c : UInt8) : swardref02_letter.f (c.toNat : Int) = some (Lx.isLet c) := by
  unfold swardref02_letter.f Lx.isLet
  split
  · rename_i h
    have a : decide (97 ≤ c.toNat) = true := decide_eq_true (by omega)
    rw [a, Bool.true_and]
    congr 1
    rw [decide_eq_decide]
    omega
  · rename_i h
    have a : decide (97 ≤ c.toNat) = false := decide_eq_false (by omega)
    rw [a, Bool.false_and]
theorem quoted_f (c : UInt8) : swardref02_quoted.f (c.toNat : Int) = some (Lx.isTxt c) := by
  unfold swardref02_quoted.f Lx.isTxt
  by_cases h1 : 32 ≤ c.toNat
  · have a1 : decide (32 ≤ c.toNat) = true := decide_eq_true h1
    rw [if_pos (by omega), a1, Bool.true_and]
    by_cases h2 : c.toNat ≤ 126
    · have a2 : decide (c.toNat ≤ 126) = true := decide_eq_true h2
      rw [if_pos (by omega), a2, Bool.true_and]
      by_cases h3 : c.toNat = 34
      · rw [if_pos (by omega)]
        simp [h3]
      · have a3 : decide (c.toNat ≠ 34) = true := decide_eq_true h3
        rw [if_neg (by omega), a3, Bool.true_and]
        congr 1
        rw [Bool.eq_iff_iff, bne_iff_ne, decide_eq_true_iff]
        omega
    · have a2 : decide (c.toNat ≤ 126) = false := decide_eq_false h2
      rw [if_neg (by omega), a2, Bool.false_and]
  · have a1 : decide (32 ≤ c.toNat) = false := decide_eq_false h1
    rw [if_neg (by omega), a1, Bool.false_and]
theorem ev_stuff (s : ByteArray) (hs : s.size ≤ 4200) : ∀ (n i m : Nat), i + m ≤ s.size → s.size - (i + m) = n →
    Ev (fun k => swardref02_stuff.l0 k s i m) ((m + Lx.runL Lx.isTxt (s.data.toList.drop (i + m)) : Nat) : Int) := by
  intro n
  induction n with
  | zero =>
    intro i m hi hn
    have he : s.data.toList.drop (i + m) = [] := List.drop_of_length_le (by simp; omega)
    rw [he]
    have hw : wrap64 ((i : Int) + m) = ((i + m : Nat) : Int) := by unfold wrap64; omega
    have h1 : ¬ (((i + m : Nat) : Int) < (s.size : Int)) := by omega
    refine Ev.succ ?_
    simp only [swardref02_stuff.l0, hw, h1, if_false]
    exact Ev.now _
  | succ n ih =>
    intro i m hi hn
    have hlt : i + m < s.size := by omega
    have ih0 := ih i (m + 1) (by omega) (by omega)
    have hd := drop_cons s (i + m) hlt
    rw [hd]
    have hb := bt_nat s (i + m) hlt
    have hw : wrap64 ((i : Int) + m) = ((i + m : Nat) : Int) := by unfold wrap64; omega
    have hw1 : wrap64 ((m : Int) + 1) = ((m + 1 : Nat) : Int) := by unfold wrap64; omega
    have h1 : ((i + m : Nat) : Int) < (s.size : Int) := by omega
    have h2 : (0 : Int) ≤ ((i + m : Nat) : Int) := by omega
    refine Ev.succ ?_
    by_cases hl : Lx.isTxt s[i + m] = true
    · simp only [swardref02_stuff.l0, hw, h1, h2, if_true, hb, quoted_f, Option.bind_some, hl, hw1]
      simp only [Lx.runL, hl, if_true]
      rw [show m + (Lx.runL Lx.isTxt (s.data.toList.drop (i + m + 1)) + 1) = m + 1 + Lx.runL Lx.isTxt (s.data.toList.drop (i + (m + 1))) by rw [show i + (m + 1) = i + m + 1 by omega]; omega]
      exact ih0
    · simp only [swardref02_stuff.l0, hw, h1, h2, if_true, hb, quoted_f, Option.bind_some, hl, if_false, Bool.false_eq_true]
      simp only [Lx.runL, hl, if_false, Bool.false_eq_true, Nat.add_zero]
      exact Ev.now _
def memB (xs : List ByteArray) (s : ByteArray) : Bool := xs.any fun x => decide (x.data.toList = s.data.toList)
theorem ev_among (xs : List ByteArray) (hx : xs.length ≤ 4000) (s : ByteArray) : ∀ (n i : Nat), i ≤ xs.length → xs.length - i = n →
    Ev (fun k => swardref02_among.l0 k xs s i) (memB (xs.drop i) s) := by
  intro n
  induction n with
  | zero =>
    intro i hi hn
    have he : xs.drop i = [] := List.drop_of_length_le (by omega)
    have h1 : ¬ ((i : Int) < (xs.length : Int)) := by omega
    refine Ev.succ ?_
    simp only [swardref02_among.l0, h1, if_false, he]
    exact Ev.now _
  | succ n ih =>
    intro i hi hn
    have hlt : i < xs.length := by omega
    have ih0 := ih (i + 1) (by omega) (by omega)
    have hw := wrap_succ i (by omega)
    have h1 : (i : Int) < (xs.length : Int) := by omega
    have h2 : (0 : Int) ≤ (i : Int) := by omega
    have hr : rdOf ByteArray.empty xs (i : Int) = xs[i] := by simp [rdOf, List.getD_eq_getElem?_getD, List.getElem?_eq_getElem hlt]
    rw [List.drop_eq_getElem_cons hlt]
    unfold memB at ih0 ⊢
    rw [List.any_cons]
    refine Ev.succ ?_
    by_cases he : xs[i].toList = s.toList
    · have hes : xs[i].data.toList = s.data.toList := by rw [← bs_toList, he, bs_toList]
      simp only [swardref02_among.l0, h1, h2, if_true, hr, he]
      rw [decide_eq_true hes, Bool.true_or]
      exact Ev.now _
    · have hne : ¬ xs[i].data.toList = s.data.toList := fun h => he (by rw [bs_toList, bs_toList, h])
      simp only [swardref02_among.l0, h1, h2, if_true, hr, he, if_false, hw]
      rw [decide_eq_false hne, Bool.false_or]
      exact ih0
theorem memB_map (ls : List Lx.Bs) (s : ByteArray) : memB (ls.map bsOf) s = ls.contains s.data.toList := by
  unfold memB
  induction ls with
  | nil => rfl
  | cons l ls ih =>
    rw [List.map_cons, List.any_cons, ih, List.contains_cons]
    congr 1
    rw [Bool.eq_iff_iff, decide_eq_true_iff, beq_iff_eq]
    show l = _ ↔ _
    exact eq_comm
theorem keys_eq : swardref02_Keys.f = some (Lx.keyWords.map bsOf) := rfl
theorem signs_eq : swardref02_Signs.f = some (Lx.signWords.map bsOf) := rfl
theorem ev_Key (s : ByteArray) : Ev (fun k => swardref02_Key.f k s) (Lx.isKey s.data.toList) := by
  have ha := ev_among (Lx.keyWords.map bsOf) (by decide) s _ 0 (Nat.zero_le _) rfl
  rw [List.drop_zero, memB_map] at ha
  refine Ev.congr (fun k => ?_) ha
  unfold swardref02_Key.f
  rw [keys_eq]
  show Option.bind (swardref02_among.l0 k (Lx.keyWords.map bsOf) s 0) (fun t => some t) = swardref02_among.l0 k (Lx.keyWords.map bsOf) s 0
  cases swardref02_among.l0 k (Lx.keyWords.map bsOf) s 0 <;> rfl
theorem ext_eq (s : ByteArray) (a n b : Nat) (h : b = a + n) : s.extract a b = bsOf ((s.data.toList.drop a).take n) := by
  have := extract_eq s a n b h
  unfold strV at this
  injection this
end Go.Proofs.YtkijoeihkajlcaaDoor.PAll

set_option linter.unusedVariables false
set_option linter.unusedSimpArgs false
namespace Go.Proofs.YtkijoeihkajlcaaDoor.PAll
open Go.RowKit Go.Shelf
open Go.Proofs.YtkijoeihkajlcaaDoorW.PrintWords

/-- A token as the printed functions have it, and as the walk of package lex has it. -/
abbrev S := S37
def sT (x : S) : Tk := ⟨x.f0, x.f1, x.f2, x.f3⟩
theorem reads_sT {w : World} {A : Option Addr} {n : Nat} {xs : List S} (h : Kd.C k37 w A n xs) : Kd.C kTk w A n (xs.map sT) := by
  obtain ⟨h1, h2, h3⟩ := h
  refine ⟨by rw [List.length_map]; exact h1, h2, fun hn => ?_⟩
  obtain ⟨ad, e, hc⟩ := h3 hn
  refine ⟨ad, e, fun j p hj => ?_⟩
  rw [List.getElem?_map] at hj
  obtain ⟨x, hx, rfl⟩ := Option.map_eq_some_iff.1 hj
  exact hc j x hx
theorem int_beq (a b : Int) : (a == b) = decide (a = b) := by rw [Bool.eq_iff_iff, beq_iff_eq, decide_eq_true_iff]
theorem rd_S (xs : List S) (i : Nat) (h : i < xs.length) : rd_T37 xs (i : Int) = xs[i] := by
  simp [rd_T37, List.getD_eq_getElem?_getD, List.getElem?_eq_getElem h]
theorem toList_inj (a b : ByteArray) : a.toList = b.toList ↔ a = b := by
  rw [bs_toList, bs_toList]
  constructor
  · intro h
    apply ByteArray.ext
    exact Array.toList_inj.1 h
  · rintro rfl; rfl

/-! ### the same tokens -/
def likeB (a b : S) : Bool := decide (a.f0 = b.f0) && (decide (a.f1 = b.f1) && decide (a.f2 = b.f2))
theorem like_f (a b : S) : swardref02_Like.f a.f0 a.f1 a.f2 a.f3 b.f0 b.f1 b.f2 b.f3 = some (likeB a b) := by
  unfold swardref02_Like.f likeB
  by_cases h0 : a.f0 = b.f0
  · by_cases h1 : a.f1 = b.f1
    · rw [if_pos h0, if_pos ((toList_inj _ _).2 h1)]
      simp [h0, h1, int_beq]
    · rw [if_pos h0, if_neg (fun h => h1 ((toList_inj _ _).1 h))]
      simp [h1]
  · rw [if_neg h0]
    simp [h0]
def sameL : List S → List S → Bool
  | [], _ => true
  | x :: xs, y :: ys => likeB x y && sameL xs ys
  | _ :: _, [] => true
def sameB (xs ys : List S) : Bool := decide (xs.length = ys.length) && sameL xs ys
theorem sameL_drop (xs ys : List S) (i : Nat) (h : i < xs.length) (h2 : i < ys.length) : sameL (xs.drop i) (ys.drop i) = (likeB xs[i] ys[i] && sameL (xs.drop (i + 1)) (ys.drop (i + 1))) := by
  rw [List.drop_eq_getElem_cons h, List.drop_eq_getElem_cons h2]
  rfl
theorem ev_same_l (xs ys : List S) (hl : xs.length = ys.length) (hx : xs.length ≤ 1000000000000000) : ∀ (n i : Nat), i ≤ xs.length → xs.length - i = n → Ev (fun k => swardref02_Same.l0 k xs ys i) (sameL (xs.drop i) (ys.drop i)) := by
  intro n
  induction n with
  | zero =>
    intro i hi hn
    have h1 : ¬ ((i : Int) < (xs.length : Int)) := by omega
    have he : xs.drop i = [] := List.drop_of_length_le (by omega)
    rw [he]
    refine Ev.succ ?_
    simp only [swardref02_Same.l0, h1, if_false]
    exact Ev.now _
  | succ n ih =>
    intro i hi hn
    have hlt : i < xs.length := by omega
    have hlt2 : i < ys.length := by omega
    have ih0 := ih (i + 1) (by omega) (by omega)
    have h1 : (i : Int) < (xs.length : Int) := by omega
    have h3 : (i : Int) < (ys.length : Int) := by omega
    have h2 : (0 : Int) ≤ (i : Int) := Int.natCast_nonneg _
    have hw := wrap_succ i (by omega)
    rw [sameL_drop xs ys i hlt hlt2]
    refine Ev.succ ?_
    simp only [swardref02_Same.l0, h1, h2, h3, if_true, rd_S xs i hlt, rd_S ys i hlt2, like_f, Option.bind_some, hw]
    cases hb : likeB xs[i] ys[i]
    · simp only [Bool.false_eq_true, if_false, Bool.false_and]
      exact Ev.now _
    · simp only [if_true, Bool.true_and]
      exact ih0
theorem ev_Same (xs ys : List S) (hx : xs.length ≤ 1000000000000000) : Ev (fun k => swardref02_Same.f k xs ys) (sameB xs ys) := by
  unfold sameB
  by_cases hl : xs.length = ys.length
  · have h1 : (xs.length : Int) = (ys.length : Int) := by omega
    have := ev_same_l xs ys hl hx _ 0 (Nat.zero_le _) rfl
    rw [List.drop_zero, List.drop_zero] at this
    simp only [swardref02_Same.f, h1, if_true, decide_eq_true hl, Bool.true_and]
    exact this
  · have h1 : ¬ (xs.length : Int) = (ys.length : Int) := by omega
    simp only [swardref02_Same.f, h1, if_false, decide_eq_false hl, Bool.false_and]
    exact Ev.now _
theorem sameL_iff : ∀ (xs ys : List S), xs.length = ys.length → (sameL xs ys = true ↔ xs.map (fun x => (x.f0, x.f1, x.f2)) = ys.map (fun x => (x.f0, x.f1, x.f2)))
  | [], [], _ => by simp [sameL]
  | x :: xs, y :: ys, h => by
    have ih := sameL_iff xs ys (by simpa using h)
    simp only [sameL, Bool.and_eq_true, ih, List.map_cons, List.cons.injEq, Prod.mk.injEq, likeB, decide_eq_true_eq]
  | [], _ :: _, h => by simp at h
  | _ :: _, [], h => by simp at h
theorem sameB_iff (xs ys : List S) : sameB xs ys = true ↔ xs.map (fun x => (x.f0, x.f1, x.f2)) = ys.map (fun x => (x.f0, x.f1, x.f2)) := by
  unfold sameB
  rw [Bool.and_eq_true, decide_eq_true_iff]
  constructor
  · rintro ⟨h1, h2⟩
    exact (sameL_iff xs ys h1).1 h2
  · intro h
    have hl : xs.length = ys.length := by simpa using congrArg List.length h
    exact ⟨hl, (sameL_iff xs ys hl).2 h⟩
theorem ev_SameAll_self (xs : List S) (hx : xs.length ≤ 10000) : Ev (fun k => swardref02_SameAll.f k xs xs) true := by
  have h : ∀ (n i : Nat), i ≤ xs.length → xs.length - i = n → Ev (fun k => swardref02_SameAll.l0 k xs xs i) true := by
    intro n
    induction n with
    | zero =>
      intro i hi hn
      have h1 : ¬ ((i : Int) < (xs.length : Int)) := by omega
      refine Ev.succ ?_
      simp only [swardref02_SameAll.l0, h1, if_false]
      exact Ev.now _
    | succ n ih =>
      intro i hi hn
      have ih0 := ih (i + 1) (by omega) (by omega)
      have h1 : (i : Int) < (xs.length : Int) := by omega
      have h2 : (0 : Int) ≤ (i : Int) := Int.natCast_nonneg _
      have hw := wrap_succ i (by omega)
      refine Ev.succ ?_
      simp only [swardref02_SameAll.l0, h1, h2, if_true, hw]
      exact ih0
  have hs := ev_Same xs xs (by omega)
  rw [(sameB_iff xs xs).2 rfl] at hs
  unfold swardref02_SameAll.f
  refine Ev.bind (f := fun k (t : Bool) => if t = true then swardref02_SameAll.l0 k xs xs 0 else some false) hs ?_
  simp only [if_true]
  exact h _ 0 (Nat.zero_le _) rfl

/-! ### tokens that are as defined -/
theorem ev_lettered (s : ByteArray) (hs : s.size ≤ 4200) : ∀ (n i : Nat), i ≤ s.size → s.size - i = n → Ev (fun k => swardref02_lettered.l0 k s i) ((s.data.toList.drop i).all Lx.isLet) := by
  intro n
  induction n with
  | zero =>
    intro i hi hn
    have he : s.data.toList.drop i = [] := List.drop_of_length_le (by simp; omega)
    have h1 : ¬ ((i : Int) < (s.size : Int)) := by omega
    rw [he]
    refine Ev.succ ?_
    simp only [swardref02_lettered.l0, h1, if_false]
    exact Ev.now _
  | succ n ih =>
    intro i hi hn
    have hlt : i < s.size := by omega
    have ih0 := ih (i + 1) (by omega) (by omega)
    have hd := drop_cons s i hlt
    have hb := bt_nat s i hlt
    have hw := wrap_succ i (by omega)
    have h1 : (i : Int) < (s.size : Int) := by omega
    have h2 : (0 : Int) ≤ (i : Int) := by omega
    rw [hd, List.all_cons]
    refine Ev.succ ?_
    simp only [swardref02_lettered.l0, h1, h2, if_true, hb, letter_f, Option.bind_some, hw]
    cases hl : Lx.isLet s[i]
    · simp only [Bool.false_eq_true, if_false, Bool.false_and]
      exact Ev.now _
    · simp only [if_true, Bool.true_and]
      exact ih0
theorem ev_Name (s : ByteArray) : Ev (fun k => swardref02_Name.f k s) (Lx.isName s.data.toList) := by
  have hlen : s.data.toList.length = s.size := by simp
  by_cases h1 : 1 ≤ s.size
  · by_cases h8 : s.size ≤ 8
    · have hl := ev_lettered s (by omega) _ 0 (Nat.zero_le _) rfl
      rw [List.drop_zero] at hl
      have hk := ev_Key s
      have c1 : (s.size : Int) ≥ 1 := by omega
      have c2 : (s.size : Int) ≤ 8 := by omega
      have hn : Lx.isName s.data.toList = (s.data.toList.all Lx.isLet && !Lx.isKey s.data.toList) := by
        unfold Lx.isName
        rw [decide_eq_true (by omega), decide_eq_true (by omega), Bool.true_and, Bool.true_and]
      rw [hn]
      simp only [swardref02_Name.f, c1, c2, if_true]
      refine Ev.bind (f := fun k (t : Bool) => if t = true then ((swardref02_Key.f k s).bind fun t => some (!t)) else some false) hl ?_
      cases ha : s.data.toList.all Lx.isLet
      · simp only [Bool.false_eq_true, if_false, Bool.false_and]
        exact Ev.now _
      · simp only [if_true, Bool.true_and]
        exact Ev.bind (f := fun k (t : Bool) => some (!t)) hk (Ev.now _)
    · have c1 : (s.size : Int) ≥ 1 := by omega
      have c2 : ¬ (s.size : Int) ≤ 8 := by omega
      have hn : Lx.isName s.data.toList = false := by
        unfold Lx.isName
        rw [decide_eq_false (p := s.data.toList.length ≤ 8) (by omega), Bool.false_and, Bool.and_false]
      rw [hn]
      simp only [swardref02_Name.f, c1, c2, if_true, if_false]
      exact Ev.now _
  · have c1 : ¬ (s.size : Int) ≥ 1 := by omega
    have hn : Lx.isName s.data.toList = false := by
      unfold Lx.isName
      rw [decide_eq_false (p := 1 ≤ s.data.toList.length) (by omega), Bool.false_and]
    rw [hn]
    simp only [swardref02_Name.f, c1, if_false]
    exact Ev.now _
theorem run_all (p : UInt8 → Bool) : ∀ l : Lx.Bs, decide ((Lx.runL p l : Int) = (l.length : Int)) = l.all p
  | [] => rfl
  | c :: l => by
    have ih := run_all p l
    have hle := Lx.runL_le p l
    rw [List.all_cons]
    cases hc : p c
    · rw [Bool.false_and]
      refine decide_eq_false ?_
      simp [Lx.runL, hc]
      omega
    · rw [Bool.true_and, ← ih, decide_eq_decide]
      simp [Lx.runL, hc]
def tokenB (x : S) : Bool := (Lx.pieceOf (sT x)).isSome
theorem ev_tok0 (x : S) (hx : ¬ (x.f3 < 0 ∨ 4000 < x.f3 ∨ (x.f0 ≠ 3 ∧ x.f2 ≠ 0))) : Ev (fun k => swardref02_Token.j0 k false x.f0 x.f1 x.f2 x.f3) (tokenB x) := by
  obtain ⟨k, s, n, a⟩ := x
  unfold tokenB Lx.pieceOf sT
  simp only at hx ⊢
  rw [if_neg hx]
  refine Ev.succ ?_
  simp only [swardref02_Token.j0, Bool.false_eq_true, if_false]
  by_cases h1 : k = 1
  · subst h1
    simp only [if_true]
    have := ev_Name s
    refine Ev.bind (f := fun k (t : Bool) => some t) this ?_
    cases Lx.isName s.data.toList <;> exact Ev.now _
  · by_cases h2 : k = 2
    · subst h2
      have e1 : ¬ ((2 : Int) = 1) := by omega
      simp only [e1, if_true, if_false]
      refine Ev.bind (f := fun k (t : Bool) => some t) (ev_Key s) ?_
      cases Lx.isKey s.data.toList <;> exact Ev.now _
    · by_cases h3 : k = 3
      · subst h3
        have e1 : ¬ ((3 : Int) = 1) := by omega
        have e2 : ¬ ((3 : Int) = 2) := by omega
        simp only [e1, e2, if_true, if_false]
        by_cases hs : s = ⟨#[]⟩
        · have hs2 : s.toList = [] := by rw [hs, bs_toList]
          by_cases hn1 : n ≥ -1000000000
          · by_cases hn2 : n ≤ 1000000000
            · rw [show (if s = (⟨#[]⟩ : ByteArray) ∧ -1000000000 ≤ n ∧ n ≤ 1000000000 then some (Lx.Piece.num n) else none).isSome = true by rw [if_pos ⟨hs, hn1, hn2⟩]; rfl]
              simp only [hs2, hn1, hn2, if_true, decide_true]
              exact Ev.now _
            · rw [show (if s = (⟨#[]⟩ : ByteArray) ∧ -1000000000 ≤ n ∧ n ≤ 1000000000 then some (Lx.Piece.num n) else none).isSome = false by rw [if_neg (by rintro ⟨_, _, h⟩; exact hn2 h)]; rfl]
              simp only [hs2, hn1, hn2, if_true, decide_false]
              exact Ev.now _
          · rw [show (if s = (⟨#[]⟩ : ByteArray) ∧ -1000000000 ≤ n ∧ n ≤ 1000000000 then some (Lx.Piece.num n) else none).isSome = false by rw [if_neg (by rintro ⟨_, h, _⟩; exact hn1 h)]; rfl]
            simp only [hs2, hn1, if_true, if_false]
            exact Ev.now _
        · have hs2 : ¬ s.toList = [] := by
            intro h
            exact hs ((toList_inj s ⟨#[]⟩).1 (by rw [h, bs_toList]))
          rw [show (if s = (⟨#[]⟩ : ByteArray) ∧ -1000000000 ≤ n ∧ n ≤ 1000000000 then some (Lx.Piece.num n) else none).isSome = false by rw [if_neg (by rintro ⟨h, _⟩; exact hs h)]; rfl]
          simp only [hs2, if_false]
          exact Ev.now _
      · by_cases h4 : k = 4
        · subst h4
          have e1 : ¬ ((4 : Int) = 1) := by omega
          have e2 : ¬ ((4 : Int) = 2) := by omega
          have e3 : ¬ ((4 : Int) = 3) := by omega
          simp only [e1, e2, e3, if_true, if_false]
          by_cases h20 : s.size ≤ 20
          · have c20 : (s.size : Int) ≤ 20 := by omega
            have hst := ev_stuff s (by omega) _ 0 0 (Nat.zero_le _) rfl
            rw [Nat.zero_add, Nat.zero_add, List.drop_zero] at hst
            have hra := run_all Lx.isTxt s.data.toList
            have hlen : s.data.toList.length = s.size := by simp
            rw [hlen] at hra
            simp only [c20, if_true]
            refine Ev.bind (f := fun k (t : Int) => some (t == (s.size : Int))) hst ?_
            rw [int_beq, hra]
            cases ha : s.data.toList.all Lx.isTxt
            · rw [show (if s.size ≤ 20 ∧ false = true then some (Lx.Piece.str s.data.toList) else none).isSome = false by rw [if_neg (by rintro ⟨_, h⟩; cases h)]; rfl]
              exact Ev.now _
            · rw [show (if s.size ≤ 20 ∧ true = true then some (Lx.Piece.str s.data.toList) else none).isSome = true by rw [if_pos ⟨h20, rfl⟩]; rfl]
              exact Ev.now _
          · have c20 : ¬ (s.size : Int) ≤ 20 := by omega
            rw [show (if s.size ≤ 20 ∧ s.data.toList.all Lx.isTxt = true then some (Lx.Piece.str s.data.toList) else none).isSome = false by rw [if_neg (by rintro ⟨h, _⟩; exact h20 h)]; rfl]
            simp only [c20, if_false]
            exact Ev.now _
        · by_cases h5 : k = 5
          · subst h5
            have e1 : ¬ ((5 : Int) = 1) := by omega
            have e2 : ¬ ((5 : Int) = 2) := by omega
            have e3 : ¬ ((5 : Int) = 3) := by omega
            have e4 : ¬ ((5 : Int) = 4) := by omega
            have ha := ev_among (Lx.signWords.map bsOf) (by decide) s _ 0 (Nat.zero_le _) rfl
            rw [List.drop_zero, memB_map] at ha
            simp only [e1, e2, e3, e4, if_true, if_false, signs_eq, Option.bind_some]
            refine Ev.bind (f := fun k (t : Bool) => some t) (a := Lx.signWords.contains s.data.toList) ?_ ?_
            · exact Ev.congr (fun k => rfl) ha
            · cases hc : Lx.signWords.contains s.data.toList
              · rw [show (if s.data.toList ∈ Lx.signWords then some (Lx.Piece.sgn s.data.toList) else none).isSome = false by rw [if_neg (by intro h; rw [← List.contains_iff_mem, hc] at h; cases h)]; rfl]
                exact Ev.now _
              · rw [show (if s.data.toList ∈ Lx.signWords then some (Lx.Piece.sgn s.data.toList) else none).isSome = true by rw [if_pos (List.contains_iff_mem.1 hc)]; rfl]
                exact Ev.now _
          · simp only [h1, h2, h3, h4, h5, if_false, Option.isSome_none]
            exact Ev.now _
theorem ev_tok1 (x : S) : Ev (fun k => swardref02_Token.j0 k true x.f0 x.f1 x.f2 x.f3) false := by
  refine Ev.succ ?_
  simp only [swardref02_Token.j0, if_true]
  exact Ev.now _
theorem ev_Token (x : S) : Ev (fun k => swardref02_Token.f k x.f0 x.f1 x.f2 x.f3) (tokenB x) := by
  by_cases hx : x.f3 < 0 ∨ 4000 < x.f3 ∨ (x.f0 ≠ 3 ∧ x.f2 ≠ 0)
  · have hf : tokenB x = false := by
      unfold tokenB Lx.pieceOf
      rw [if_pos (show (sT x).f3 < 0 ∨ 4000 < (sT x).f3 ∨ ((sT x).f0 ≠ 3 ∧ (sT x).f2 ≠ 0) from hx)]
      rfl
    rw [hf]
    unfold swardref02_Token.f
    by_cases h1 : x.f3 < 0
    · simp only [h1, if_true]
      exact ev_tok1 x
    · by_cases h2 : x.f3 > 4000
      · simp only [h1, h2, if_true, if_false]
        exact ev_tok1 x
      · have h3 : ¬ x.f0 = 3 := by omega
        have h4 : (x.f2 != 0) = true := by rw [bne_iff_ne]; omega
        simp only [h1, h2, h3, h4, if_false]
        exact ev_tok1 x
  · have h1 : ¬ x.f3 < 0 := by omega
    have h2 : ¬ x.f3 > 4000 := by omega
    unfold swardref02_Token.f
    by_cases h3 : x.f0 = 3
    · simp only [h1, h2, h3, if_true, if_false]
      rw [← h3]
      exact ev_tok0 x hx
    · have h4 : (x.f2 != 0) = false := by
        have : x.f2 = 0 := by omega
        rw [this]; rfl
      simp only [h1, h2, h3, h4, if_false]
      exact ev_tok0 x hx
theorem ev_All_l (xs : List S) (hx : xs.length ≤ 1000000000000000) : ∀ (n i : Nat), i ≤ xs.length → xs.length - i = n → Ev (fun k => swardref02_All.l0 k xs i) ((xs.drop i).all tokenB) := by
  intro n
  induction n with
  | zero =>
    intro i hi hn
    have h1 : ¬ ((i : Int) < (xs.length : Int)) := by omega
    have he : xs.drop i = [] := List.drop_of_length_le (by omega)
    rw [he]
    refine Ev.succ ?_
    simp only [swardref02_All.l0, h1, if_false]
    exact Ev.now _
  | succ n ih =>
    intro i hi hn
    have hlt : i < xs.length := by omega
    have ih0 := ih (i + 1) (by omega) (by omega)
    have h1 : (i : Int) < (xs.length : Int) := by omega
    have h2 : (0 : Int) ≤ (i : Int) := Int.natCast_nonneg _
    have hw := wrap_succ i (by omega)
    rw [List.drop_eq_getElem_cons hlt, List.all_cons]
    refine Ev.succ ?_
    simp only [swardref02_All.l0, h1, h2, if_true, rd_S xs i hlt, hw]
    refine Ev.bind (f := fun k (t : Bool) => if t = true then swardref02_All.l0 k xs ((i + 1 : Nat) : Int) else some false) (ev_Token xs[i]) ?_
    cases hb : tokenB xs[i]
    · simp only [Bool.false_eq_true, if_false, Bool.false_and]
      exact Ev.now _
    · simp only [if_true, Bool.true_and]
      exact ih0
theorem ev_All (xs : List S) (hx : xs.length ≤ 1000000000000000) : Ev (fun k => swardref02_All.f k xs) (xs.all tokenB) := by
  have := ev_All_l xs hx _ 0 (Nat.zero_le _) rfl
  rw [List.drop_zero] at this
  exact this
def fewB (xs : List S) : Bool := (xs.take 61).all (fun x => decide (x.f1.size ≤ 40)) && decide (xs.length ≤ 60)
theorem ev_few_l (xs : List S) : ∀ (n i : Nat), i ≤ 61 → 61 - i = n → Ev (fun k => swardlaw02_few.l0 k xs i) (((xs.take 61).drop i).all (fun x => decide (x.f1.size ≤ 40)) && decide (xs.length ≤ 60)) := by
  have hz : decide ((xs.length : Int) ≤ 60) = decide (xs.length ≤ 60) := by rw [decide_eq_decide]; omega
  intro n
  induction n with
  | zero =>
    intro i hi hn
    have he : (xs.take 61).drop i = [] := List.drop_of_length_le (by rw [List.length_take]; omega)
    have h6 : decide ((i : Int) < 61) = false := decide_eq_false (by omega)
    rw [he, List.all_nil, Bool.true_and]
    refine Ev.succ ?_
    simp only [swardlaw02_few.l0, h6, ite_self]
    refine Ev.succ ?_
    simp only [swardlaw02_few.j1, Bool.false_eq_true, if_false, hz]
    exact Ev.now _
  | succ n ih =>
    intro i hi hn
    have ih0 := ih (i + 1) (by omega) (by omega)
    by_cases hlt : i < xs.length
    · have h1 : (i : Int) < (xs.length : Int) := by omega
      have h2 : (0 : Int) ≤ (i : Int) := Int.natCast_nonneg _
      have h6 : decide ((i : Int) < 61) = true := decide_eq_true (by omega)
      have hw := wrap_succ i (by omega)
      have hlt2 : i < (xs.take 61).length := by rw [List.length_take]; omega
      have hg : (xs.take 61)[i] = xs[i] := List.getElem_take
      rw [List.drop_eq_getElem_cons hlt2, List.all_cons, hg]
      refine Ev.succ ?_
      simp only [swardlaw02_few.l0, h1, h6, if_true]
      refine Ev.succ ?_
      simp only [swardlaw02_few.j1, h1, h2, if_true, rd_S xs i hlt, hw]
      by_cases h40 : xs[i].f1.size ≤ 40
      · have c40 : ¬ ((xs[i].f1.size : Int) > 40) := by omega
        simp only [c40, if_false, decide_eq_true h40, Bool.true_and]
        exact ih0
      · have c40 : (xs[i].f1.size : Int) > 40 := by omega
        simp only [c40, if_true, decide_eq_false h40, Bool.false_and]
        exact Ev.now _
    · have h1 : ¬ ((i : Int) < (xs.length : Int)) := by omega
      have he : (xs.take 61).drop i = [] := List.drop_of_length_le (by rw [List.length_take]; omega)
      rw [he, List.all_nil, Bool.true_and]
      refine Ev.succ ?_
      simp only [swardlaw02_few.l0, h1, if_false]
      refine Ev.succ ?_
      simp only [swardlaw02_few.j1, Bool.false_eq_true, if_false, hz]
      exact Ev.now _
theorem ev_few (xs : List S) : Ev (fun k => swardlaw02_few.f k xs) (fewB xs) := by
  have := ev_few_l xs _ 0 (Nat.zero_le _) rfl
  rw [List.drop_zero] at this
  exact this
theorem fewB_iff (xs : List S) (h : fewB xs = true) : xs.length ≤ 60 ∧ ∀ x ∈ xs, x.f1.size ≤ 40 := by
  unfold fewB at h
  rw [Bool.and_eq_true, decide_eq_true_iff, List.all_eq_true] at h
  obtain ⟨h1, h2⟩ := h
  rw [List.take_of_length_le (by omega)] at h1
  exact ⟨h2, fun x hx => by simpa using h1 x hx⟩
end Go.Proofs.YtkijoeihkajlcaaDoor.PAll

set_option linter.unusedVariables false
set_option linter.unusedSimpArgs false
namespace Go.Proofs.YtkijoeihkajlcaaDoor.PAll
open Go.RowKit Go.Shelf
open Go.Proofs.YtkijoeihkajlcaaDoorW.PrintWords

def tS (x : Tk) : S := ⟨x.f0, x.f1, x.f2, x.f3⟩
theorem reads_tS {w : World} {A : Option Addr} {n : Nat} {xs : List Tk} (h : Kd.C kTk w A n xs) : Kd.C k37 w A n (xs.map tS) := by
  obtain ⟨h1, h2, h3⟩ := h
  refine ⟨by rw [List.length_map]; exact h1, h2, fun hn => ?_⟩
  obtain ⟨ad, e, hc⟩ := h3 hn
  refine ⟨ad, e, fun j p hj => ?_⟩
  rw [List.getElem?_map] at hj
  obtain ⟨x, hx, rfl⟩ := Option.map_eq_some_iff.1 hj
  exact hc j x hx
/-- What Tokens is known to do at a source. -/
def TokOf (s : ByteArray) (xs : List Tk) (k : Int) : Prop := ∀ W, Laid W → Calls Tryd.prog 18 #[.string s] W fun e w' => (∃ tk, e = .returned (.tuple #[tk, .int .i64 k]) ∧ OwnToks w' W.heap.size tk xs) ∧ Below W.heap.size W w'
/-- What Wrong is known to do at a source. -/
def WrongOf (s : ByteArray) (p y : Int) : Prop := ∀ W, Laid W → Calls Tryd.prog 23 #[.string s] W fun e w' => e = .returned (.tuple #[.int .i64 p, .int .i64 y, .int .i64 0]) ∧ Below W.heap.size W w'
theorem at_wrong_le : ∀ (g pos : Nat) (l : Lx.Bs) (p : Nat) (y : Int), (Lx.readF g pos l).2 = some (p, y) → p ≤ pos + l.length
  | 0, _, _, _, _, h => by cases h
  | g + 1, pos, l, p, y, h => by
    by_cases hl : l = []
    · rw [Lx.readF, if_pos hl] at h
      cases h
    · cases hp : Lx.piece l with
      | none => exact absurd hp (Lx.piece_ne l)
      | bad w =>
        rw [readF_bad hl hp] at h
        cases h
        omega
      | got q n =>
        have hfit := got_len l q n hp
        rw [readF_got hl hp] at h
        have hsk := Lx.skip_le (l.drop n)
        rw [List.length_drop] at hsk
        have ih := at_wrong_le g _ _ p y h
        rw [List.length_drop] at ih
        omega
theorem readAll_wrong_le (l : Lx.Bs) (p : Nat) (y : Int) (h : (Lx.readAll l).2 = some (p, y)) : p ≤ l.length := by
  have hk := Lx.skip_le l
  have := at_wrong_le _ _ _ p y h
  rw [List.length_drop] at this
  omega
set_option maxRecDepth 100000 in
set_option maxHeartbeats 8000000 in
theorem joined_bad0 (one other : ByteArray) (h1 : one.size ≤ 200) (h2 : other.size ≤ 200) (xa xb xc : List Tk) (hla : xa.length ≤ one.size) (hlb : xb.length ≤ other.size) (hpb : ∀ t ∈ xb, 0 ≤ t.f3 ∧ t.f3 ≤ (other.size : Int)) (p y : Int) (hTa : TokOf one xa 4) (hTb : TokOf other xb 0) (hTc : TokOf (one ++ ⟨#[10]⟩ ++ other) xc 4) (hWc : WrongOf (one ++ ⟨#[10]⟩ ++ other) p y) (hWa : WrongOf one p y) (w : World) (hL : Laid w) :
    Calls Tryd.prog 6 #[.string one, .string other] w fun e w' => e = .returned (.bool true) ∧ Below w.heap.size w w' := by
  replace hWc := Lib.hid hWc
  replace hWa := Lib.hid hWa
  have ep : (p == p) = true := beq_self_eq_true p
  have ey : (y == y) = true := beq_self_eq_true y
  have hkn := Lib.hid (fun w' (h : Laid w') => known_calls w' h)
  replace hTa := Lib.hid hTa
  replace hTb := Lib.hid hTb
  replace hTc := Lib.hid hTc
  replace hpb := Lib.hid hpb
  have hle1 : (xa.length : Int) ≤ (one.size : Int) := by omega
  have hle2 : (xb.length : Int) ≤ (other.size : Int) := by omega
  go_enter Tryd.func6, Tryd.ntmps6
  go_wp2_with fail
  refine (hTa.out _ hL).mono ?_
  rintro e w1 ⟨⟨tk, rfl, ho⟩, hb⟩
  have hB1 := Lib.hid hb
  clear hb
  obtain ⟨A, ca, rfl, hca, hra⟩ := Kd.R_reads ho.R
  replace hra := Lib.hid hra
  clear ho
  go_wp2_with fail
  refine (hTb.out _ (hL.below hB1.out)).mono ?_
  rintro e w2 ⟨⟨tk, rfl, ho⟩, hb⟩
  have hB2 := Lib.hid (Go.Proofs.YtkijoeihkajlcaaDoor.below_then hB1.out hb (Nat.le_refl _))
  replace hra := Lib.hid (Kd.C_below hra.out hb)
  clear hb
  obtain ⟨B, cb, rfl, hcb, hrb⟩ := Kd.R_reads ho.R
  replace hrb := Lib.hid hrb
  clear ho
  go_wp2_with fail
  refine (hTc.out _ (hL.below hB2.out)).mono ?_
  rintro e w3 ⟨⟨tk, rfl, ho⟩, hb⟩
  have hB3 := Lib.hid (Go.Proofs.YtkijoeihkajlcaaDoor.below_then hB2.out hb (Nat.le_refl _))
  replace hra := Lib.hid (Kd.C_below hra.out hb)
  replace hrb := Lib.hid (Kd.C_below hrb.out hb)
  clear hb
  obtain ⟨C, cc, rfl, hcc, hrc⟩ := Kd.R_reads ho.R
  replace hrc := Lib.hid hrc
  clear ho hTa hTb hTc
  go_wp2
  go_loopg [11] xb.length (fun g v11 wr => ∃ i : Nat, v11 = .int .i64 i ∧ i ≤ xb.length ∧ Hid (g + i = xb.length) ∧ wr = w3)
  case atStart => exact ⟨0, rfl, Nat.zero_le _, Lib.hid rfl, rfl⟩
  case round =>
    obtain ⟨i, rfl, hi, hg, rfl⟩ := hrel
    by_cases hlt : i < xb.length
    · obtain ⟨ad, rfl, d0, d1, d2, d3⟩ := at_Tk hrb.out i (by omega) (by omega)
      simp only [Int.toNat_natCast] at d3
      have hmem : xb.getD i zTk ∈ xb := by
        rw [List.getD_eq_getElem?_getD, List.getElem?_eq_getElem hlt]
        exact List.getElem_mem hlt
      obtain ⟨q0, q1⟩ := hpb.out _ hmem
      obtain ⟨f3, hf3⟩ : ∃ f3, f3 = (xb.getD i zTk).f3 := ⟨_, rfl⟩
      rw [← hf3] at q0 q1 d3
      clear d0 d1 d2 hmem hf3
      have b0 : decide (f3 < 0) = false := decide_eq_false (by omega)
      have b1 : decide ((other.size : Int) < f3) = false := decide_eq_false (by omega)
      go_wp2
      go_roundg (xb.length - (i + 1))
      case measure => have := hg.out; omega
      case rel => exact ⟨i + 1, by go_num, by omega, Lib.hid (by omega), rfl⟩
    · clear hg
      go_wp2_with fail
      refine (hWc.out _ (hL.below hB3.out)).mono ?_
      rintro e w4 ⟨rfl, hb⟩
      have hB4 := Lib.hid (Go.Proofs.YtkijoeihkajlcaaDoor.below_then hB3.out hb (Nat.le_refl _))
      clear hb
      go_wp2_with fail
      refine (hWa.out _ (hL.below hB4.out)).mono ?_
      rintro e w5 ⟨rfl, hb⟩
      have hB5 := Lib.hid (Go.Proofs.YtkijoeihkajlcaaDoor.below_then hB4.out hb (Nat.le_refl _))
      clear hb
      go_wp2_with fail
      refine (hkn.out _ (hL.below hB5.out)).mono ?_
      rintro e w6 ⟨rfl, hb⟩
      have hB6 := Lib.hid (Go.Proofs.YtkijoeihkajlcaaDoor.below_then hB5.out hb (Nat.le_refl _))
      clear hb
      go_wp2
      go_ret
      exact ⟨rfl, hB6.out⟩
set_option maxRecDepth 100000 in
set_option maxHeartbeats 8000000 in
theorem joined_bad4 (one other : ByteArray) (h1 : one.size ≤ 200) (h2 : other.size ≤ 200) (xa xb xc : List Tk) (hla : xa.length ≤ one.size) (hlb : xb.length ≤ other.size) (hpb : ∀ t ∈ xb, 0 ≤ t.f3 ∧ t.f3 ≤ (other.size : Int)) (p y : Int) (hTa : TokOf one xa 4) (hTb : TokOf other xb 4) (hTc : TokOf (one ++ ⟨#[10]⟩ ++ other) xc 4) (hWc : WrongOf (one ++ ⟨#[10]⟩ ++ other) p y) (hWa : WrongOf one p y) (w : World) (hL : Laid w) :
    Calls Tryd.prog 6 #[.string one, .string other] w fun e w' => e = .returned (.bool true) ∧ Below w.heap.size w w' := by
  replace hWc := Lib.hid hWc
  replace hWa := Lib.hid hWa
  have ep : (p == p) = true := beq_self_eq_true p
  have ey : (y == y) = true := beq_self_eq_true y
  have hkn := Lib.hid (fun w' (h : Laid w') => known_calls w' h)
  replace hTa := Lib.hid hTa
  replace hTb := Lib.hid hTb
  replace hTc := Lib.hid hTc
  replace hpb := Lib.hid hpb
  have hle1 : (xa.length : Int) ≤ (one.size : Int) := by omega
  have hle2 : (xb.length : Int) ≤ (other.size : Int) := by omega
  go_enter Tryd.func6, Tryd.ntmps6
  go_wp2_with fail
  refine (hTa.out _ hL).mono ?_
  rintro e w1 ⟨⟨tk, rfl, ho⟩, hb⟩
  have hB1 := Lib.hid hb
  clear hb
  obtain ⟨A, ca, rfl, hca, hra⟩ := Kd.R_reads ho.R
  replace hra := Lib.hid hra
  clear ho
  go_wp2_with fail
  refine (hTb.out _ (hL.below hB1.out)).mono ?_
  rintro e w2 ⟨⟨tk, rfl, ho⟩, hb⟩
  have hB2 := Lib.hid (Go.Proofs.YtkijoeihkajlcaaDoor.below_then hB1.out hb (Nat.le_refl _))
  replace hra := Lib.hid (Kd.C_below hra.out hb)
  clear hb
  obtain ⟨B, cb, rfl, hcb, hrb⟩ := Kd.R_reads ho.R
  replace hrb := Lib.hid hrb
  clear ho
  go_wp2_with fail
  refine (hTc.out _ (hL.below hB2.out)).mono ?_
  rintro e w3 ⟨⟨tk, rfl, ho⟩, hb⟩
  have hB3 := Lib.hid (Go.Proofs.YtkijoeihkajlcaaDoor.below_then hB2.out hb (Nat.le_refl _))
  replace hra := Lib.hid (Kd.C_below hra.out hb)
  replace hrb := Lib.hid (Kd.C_below hrb.out hb)
  clear hb
  obtain ⟨C, cc, rfl, hcc, hrc⟩ := Kd.R_reads ho.R
  replace hrc := Lib.hid hrc
  clear ho hTa hTb hTc
  go_wp2
  go_loopg [11] xb.length (fun g v11 wr => ∃ i : Nat, v11 = .int .i64 i ∧ i ≤ xb.length ∧ Hid (g + i = xb.length) ∧ wr = w3)
  case atStart => exact ⟨0, rfl, Nat.zero_le _, Lib.hid rfl, rfl⟩
  case round =>
    obtain ⟨i, rfl, hi, hg, rfl⟩ := hrel
    by_cases hlt : i < xb.length
    · obtain ⟨ad, rfl, d0, d1, d2, d3⟩ := at_Tk hrb.out i (by omega) (by omega)
      simp only [Int.toNat_natCast] at d3
      have hmem : xb.getD i zTk ∈ xb := by
        rw [List.getD_eq_getElem?_getD, List.getElem?_eq_getElem hlt]
        exact List.getElem_mem hlt
      obtain ⟨q0, q1⟩ := hpb.out _ hmem
      obtain ⟨f3, hf3⟩ : ∃ f3, f3 = (xb.getD i zTk).f3 := ⟨_, rfl⟩
      rw [← hf3] at q0 q1 d3
      clear d0 d1 d2 hmem hf3
      have b0 : decide (f3 < 0) = false := decide_eq_false (by omega)
      have b1 : decide ((other.size : Int) < f3) = false := decide_eq_false (by omega)
      go_wp2
      go_roundg (xb.length - (i + 1))
      case measure => have := hg.out; omega
      case rel => exact ⟨i + 1, by go_num, by omega, Lib.hid (by omega), rfl⟩
    · clear hg
      go_wp2_with fail
      refine (hWc.out _ (hL.below hB3.out)).mono ?_
      rintro e w4 ⟨rfl, hb⟩
      have hB4 := Lib.hid (Go.Proofs.YtkijoeihkajlcaaDoor.below_then hB3.out hb (Nat.le_refl _))
      clear hb
      go_wp2_with fail
      refine (hWa.out _ (hL.below hB4.out)).mono ?_
      rintro e w5 ⟨rfl, hb⟩
      have hB5 := Lib.hid (Go.Proofs.YtkijoeihkajlcaaDoor.below_then hB4.out hb (Nat.le_refl _))
      clear hb
      go_wp2_with fail
      refine (hkn.out _ (hL.below hB5.out)).mono ?_
      rintro e w6 ⟨rfl, hb⟩
      have hB6 := Lib.hid (Go.Proofs.YtkijoeihkajlcaaDoor.below_then hB5.out hb (Nat.le_refl _))
      clear hb
      go_wp2
      go_ret
      exact ⟨rfl, hB6.out⟩
set_option maxRecDepth 100000 in
set_option maxHeartbeats 8000000 in
theorem joined_second (one other : ByteArray) (h1 : one.size ≤ 200) (h2 : other.size ≤ 200) (xa xb xc : List Tk) (hla : xa.length ≤ one.size) (hlb : xb.length ≤ other.size) (hpb : ∀ t ∈ xb, 0 ≤ t.f3 ∧ t.f3 ≤ (other.size : Int)) (P p y : Int) (hp0 : 0 ≤ p) (hp1 : p ≤ other.size) (hP : P = p + one.size + 1) (hTa : TokOf one xa 0) (hTb : TokOf other xb 4) (hTc : TokOf (one ++ ⟨#[10]⟩ ++ other) xc 4) (hWc : WrongOf (one ++ ⟨#[10]⟩ ++ other) P y) (hWb : WrongOf other p y) (w : World) (hL : Laid w) :
    Calls Tryd.prog 6 #[.string one, .string other] w fun e w' => e = .returned (.bool true) ∧ Below w.heap.size w w' := by
  replace hWc := Lib.hid hWc
  replace hWb := Lib.hid hWb
  have ep : (P == p + (one.size : Int) + 1) = true := by rw [beq_iff_eq, hP]
  have ey : (y == y) = true := beq_self_eq_true y
  have e0 : decide (0 ≤ p) = true := decide_eq_true hp0
  have e1 : decide (p ≤ (other.size : Int)) = true := decide_eq_true hp1
  clear hP
  have hkn := Lib.hid (fun w' (h : Laid w') => known_calls w' h)
  replace hTa := Lib.hid hTa
  replace hTb := Lib.hid hTb
  replace hTc := Lib.hid hTc
  replace hpb := Lib.hid hpb
  have hle1 : (xa.length : Int) ≤ (one.size : Int) := by omega
  have hle2 : (xb.length : Int) ≤ (other.size : Int) := by omega
  go_enter Tryd.func6, Tryd.ntmps6
  go_wp2_with fail
  refine (hTa.out _ hL).mono ?_
  rintro e w1 ⟨⟨tk, rfl, ho⟩, hb⟩
  have hB1 := Lib.hid hb
  clear hb
  obtain ⟨A, ca, rfl, hca, hra⟩ := Kd.R_reads ho.R
  replace hra := Lib.hid hra
  clear ho
  go_wp2_with fail
  refine (hTb.out _ (hL.below hB1.out)).mono ?_
  rintro e w2 ⟨⟨tk, rfl, ho⟩, hb⟩
  have hB2 := Lib.hid (Go.Proofs.YtkijoeihkajlcaaDoor.below_then hB1.out hb (Nat.le_refl _))
  replace hra := Lib.hid (Kd.C_below hra.out hb)
  clear hb
  obtain ⟨B, cb, rfl, hcb, hrb⟩ := Kd.R_reads ho.R
  replace hrb := Lib.hid hrb
  clear ho
  go_wp2_with fail
  refine (hTc.out _ (hL.below hB2.out)).mono ?_
  rintro e w3 ⟨⟨tk, rfl, ho⟩, hb⟩
  have hB3 := Lib.hid (Go.Proofs.YtkijoeihkajlcaaDoor.below_then hB2.out hb (Nat.le_refl _))
  replace hra := Lib.hid (Kd.C_below hra.out hb)
  replace hrb := Lib.hid (Kd.C_below hrb.out hb)
  clear hb
  obtain ⟨C, cc, rfl, hcc, hrc⟩ := Kd.R_reads ho.R
  replace hrc := Lib.hid hrc
  clear ho hTa hTb hTc
  go_wp2
  go_loopg [11] xb.length (fun g v11 wr => ∃ i : Nat, v11 = .int .i64 i ∧ i ≤ xb.length ∧ Hid (g + i = xb.length) ∧ wr = w3)
  case atStart => exact ⟨0, rfl, Nat.zero_le _, Lib.hid rfl, rfl⟩
  case round =>
    obtain ⟨i, rfl, hi, hg, rfl⟩ := hrel
    by_cases hlt : i < xb.length
    · obtain ⟨ad, rfl, d0, d1, d2, d3⟩ := at_Tk hrb.out i (by omega) (by omega)
      simp only [Int.toNat_natCast] at d3
      have hmem : xb.getD i zTk ∈ xb := by
        rw [List.getD_eq_getElem?_getD, List.getElem?_eq_getElem hlt]
        exact List.getElem_mem hlt
      obtain ⟨q0, q1⟩ := hpb.out _ hmem
      obtain ⟨f3, hf3⟩ : ∃ f3, f3 = (xb.getD i zTk).f3 := ⟨_, rfl⟩
      rw [← hf3] at q0 q1 d3
      clear d0 d1 d2 hmem hf3
      have b0 : decide (f3 < 0) = false := decide_eq_false (by omega)
      have b1 : decide ((other.size : Int) < f3) = false := decide_eq_false (by omega)
      go_wp2
      go_roundg (xb.length - (i + 1))
      case measure => have := hg.out; omega
      case rel => exact ⟨i + 1, by go_num, by omega, Lib.hid (by omega), rfl⟩
    · clear hg
      go_wp2_with fail
      refine (hWc.out _ (hL.below hB3.out)).mono ?_
      rintro e w4 ⟨rfl, hb⟩
      have hB4 := Lib.hid (Go.Proofs.YtkijoeihkajlcaaDoor.below_then hB3.out hb (Nat.le_refl _))
      clear hb
      go_wp2_with fail
      refine (hWb.out _ (hL.below hB4.out)).mono ?_
      rintro e w5 ⟨rfl, hb⟩
      have hB5 := Lib.hid (Go.Proofs.YtkijoeihkajlcaaDoor.below_then hB4.out hb (Nat.le_refl _))
      clear hb
      go_wp2_with fail
      refine (hkn.out _ (hL.below hB5.out)).mono ?_
      rintro e w6 ⟨rfl, hb⟩
      have hB6 := Lib.hid (Go.Proofs.YtkijoeihkajlcaaDoor.below_then hB5.out hb (Nat.le_refl _))
      clear hb
      go_wp2
      go_ret
      exact ⟨rfl, hB6.out⟩
set_option maxRecDepth 100000 in
set_option maxHeartbeats 8000000 in
theorem joined_both (one other : ByteArray) (h1 : one.size ≤ 200) (h2 : other.size ≤ 200) (xa xb xc : List Tk) (hla : xa.length ≤ one.size) (hlb : xb.length ≤ other.size) (hpb : ∀ t ∈ xb, 0 ≤ t.f3 ∧ t.f3 ≤ (other.size : Int)) (hpa : ∀ t ∈ xa, True) (hxc : xc = xa ++ xb.map (movedT ((one.size : Int) + 1))) (hTa : TokOf one xa 0) (hTb : TokOf other xb 0) (hTc : TokOf (one ++ ⟨#[10]⟩ ++ other) xc 0) (w : World) (hL : Laid w) :
    Calls Tryd.prog 6 #[.string one, .string other] w fun e w' => e = .returned (.bool true) ∧ Below w.heap.size w w' := by
  obtain ⟨ks, hsam⟩ := (ev_SameAll_self (xc.map tS) (by rw [List.length_map, hxc, List.length_append, List.length_map]; omega)).rounds
  have hsc := Lib.hid (fun (A0 : Option Addr) (c0 : Nat) (A1 : Option Addr) (c1 : Nat) (W : World) (hA : Kd.C kTk W A0 xc.length xc) (h0 : xc.length ≤ c0) (hB : Kd.C kTk W A1 xc.length xc) (h1 : xc.length ≤ c1) => (by
    have := swardref02_SameAll.calls ks A0 c0 (xc.map tS) A1 c1 (xc.map tS) true W (by rw [List.length_map]; exact reads_tS hA) (by rw [List.length_map]; exact h0) (by rw [List.length_map]; exact reads_tS hB) (by rw [List.length_map]; exact h1) hsam
    rw [List.length_map] at this
    exact this : Calls Tryd.prog 21 #[.slice A0 xc.length c0, .slice A1 xc.length c1] W fun e w' => e = .returned (.bool true) ∧ Below W.heap.size W w'))
  clear hsam
  replace hxc := Lib.hid hxc
  have hkn := Lib.hid (fun w' (h : Laid w') => known_calls w' h)
  replace hTa := Lib.hid hTa
  replace hTb := Lib.hid hTb
  replace hTc := Lib.hid hTc
  replace hpb := Lib.hid hpb
  have hle1 : (xa.length : Int) ≤ (one.size : Int) := by omega
  have hle2 : (xb.length : Int) ≤ (other.size : Int) := by omega
  go_enter Tryd.func6, Tryd.ntmps6
  go_wp2_with fail
  refine (hTa.out _ hL).mono ?_
  rintro e w1 ⟨⟨tk, rfl, ho⟩, hb⟩
  have hB1 := Lib.hid hb
  clear hb
  obtain ⟨A, ca, rfl, hca, hra⟩ := Kd.R_reads ho.R
  replace hra := Lib.hid hra
  clear ho
  go_wp2_with fail
  refine (hTb.out _ (hL.below hB1.out)).mono ?_
  rintro e w2 ⟨⟨tk, rfl, ho⟩, hb⟩
  have hB2 := Lib.hid (Go.Proofs.YtkijoeihkajlcaaDoor.below_then hB1.out hb (Nat.le_refl _))
  replace hra := Lib.hid (Kd.C_below hra.out hb)
  clear hb
  obtain ⟨B, cb, rfl, hcb, hrb⟩ := Kd.R_reads ho.R
  replace hrb := Lib.hid hrb
  clear ho
  go_wp2_with fail
  refine (hTc.out _ (hL.below hB2.out)).mono ?_
  rintro e w3 ⟨⟨tk, rfl, ho⟩, hb⟩
  have hB3 := Lib.hid (Go.Proofs.YtkijoeihkajlcaaDoor.below_then hB2.out hb (Nat.le_refl _))
  replace hra := Lib.hid (Kd.C_below hra.out hb)
  replace hrb := Lib.hid (Kd.C_below hrb.out hb)
  clear hb
  obtain ⟨C, cc, rfl, hcc, hrc⟩ := Kd.R_reads ho.R
  replace hrc := Lib.hid hrc
  clear ho hTa hTb hTc
  go_wp2
  go_loopg [11] xb.length (fun g v11 wr => ∃ i : Nat, v11 = .int .i64 i ∧ i ≤ xb.length ∧ Hid (g + i = xb.length) ∧ wr = w3)
  case atStart => exact ⟨0, rfl, Nat.zero_le _, Lib.hid rfl, rfl⟩
  case round =>
    obtain ⟨i, rfl, hi, hg, rfl⟩ := hrel
    by_cases hlt : i < xb.length
    · obtain ⟨ad, rfl, d0, d1, d2, d3⟩ := at_Tk hrb.out i (by omega) (by omega)
      simp only [Int.toNat_natCast] at d3
      have hmem : xb.getD i zTk ∈ xb := by
        rw [List.getD_eq_getElem?_getD, List.getElem?_eq_getElem hlt]
        exact List.getElem_mem hlt
      obtain ⟨q0, q1⟩ := hpb.out _ hmem
      obtain ⟨f3, hf3⟩ : ∃ f3, f3 = (xb.getD i zTk).f3 := ⟨_, rfl⟩
      rw [← hf3] at q0 q1 d3
      clear d0 d1 d2 hmem hf3
      have b0 : decide (f3 < 0) = false := decide_eq_false (by omega)
      have b1 : decide ((other.size : Int) < f3) = false := decide_eq_false (by omega)
      go_wp2
      go_roundg (xb.length - (i + 1))
      case measure => have := hg.out; omega
      case rel => exact ⟨i + 1, by go_num, by omega, Lib.hid (by omega), rfl⟩
    · clear hg
      have hmv := Lib.hid (fun (W : World) (hW : Kd.C kTk W B xb.length xb) => moved_calls B cb xb ((one.size : Int) + 1) W hW hcb (by omega) (by omega) (by omega) (fun t ht => by have := hpb.out t ht; omega))
      go_wp2_with (at_builtin; refine append_toks (w0 := wr) wr.heap.size rfl _ _ rfl (.slice none 0 0) [] xa A xa.length ca rfl rfl (OwnToks.nil _ _) hra.out (Below.refl _ _) (Nat.le_refl _) (by show 0 + xa.length ≤ 10000; omega) ?_; intro v1 w4 hown hB4; have hown1 := Lib.hid (show OwnToks w4 wr.heap.size v1 xa from hown); replace hB4 := Lib.hid hB4; clear hown)
      have hBw4 := Lib.hid (Go.Proofs.YtkijoeihkajlcaaDoor.below_then hB3.out hB4.out (Nat.le_refl _))
      replace hrb := Lib.hid (Kd.C_below hrb.out hB4.out)
      go_wp2_with fail
      refine (hmv.out _ hrb.out).mono ?_
      rintro e w5 ⟨⟨v5, rfl, ho⟩, hb⟩
      have hB5 := Lib.hid (Go.Proofs.YtkijoeihkajlcaaDoor.below_then hB4.out hb (by have := hB4.out.size; omega))
      have hBw5 := Lib.hid (Go.Proofs.YtkijoeihkajlcaaDoor.below_then hBw4.out hb (by have := hBw4.out.size; omega))
      replace hown1 := Lib.hid (show OwnToks w5 wr.heap.size v1 xa from pw_own_below hown1.out hb)
      obtain ⟨A5, c5, rfl, hc5, hr5⟩ := Kd.R_reads ho.R
      replace hr5 := Lib.hid hr5
      clear hb ho
      obtain ⟨xm, hxm⟩ : ∃ xm, xm = xb.map (movedT ((one.size : Int) + 1)) := ⟨_, rfl⟩
      have hml : xm.length = xb.length := by rw [hxm, List.length_map]
      rw [← hxm] at hr5 hc5 hxc ⊢
      replace hxm := Lib.hid hxm
      have hmb : xm.length ≤ 200 := by omega
      have hab : xa.length ≤ 200 := by omega
      clear hml
      go_wp2_with (at_builtin; refine append_toks (w0 := wr) wr.heap.size rfl _ _ rfl v1 xa xm A5 xm.length c5 rfl rfl hown1.out hr5.out hB5.out (by have := hB5.out.size; omega) (by omega) ?_; intro v2 w6 hown hB6; have hown2 := Lib.hid (show OwnToks w6 wr.heap.size v2 xc by rw [hxc.out]; exact hown); replace hB6 := Lib.hid hB6; clear hown)
      have hBw6 := Lib.hid (Go.Proofs.YtkijoeihkajlcaaDoor.below_then hB3.out hB6.out (Nat.le_refl _))
      replace hrc := Lib.hid (Kd.C_below hrc.out hB6.out)
      obtain ⟨A6, c6, rfl, hc6, hr6⟩ := Kd.R_reads hown2.out.R
      have hSA := Lib.hid (hsc.out C cc A6 c6 w6 hrc.out hcc hr6 hc6)
      clear hown2 hown1 hr6
      go_wp2_with fail
      refine hSA.out.mono ?_
      rintro e w7 ⟨rfl, hb⟩
      have hB7 := Lib.hid (Go.Proofs.YtkijoeihkajlcaaDoor.below_then hBw6.out hb (by have := hBw6.out.size; omega))
      clear hb
      go_wp2_with fail
      refine (hkn.out _ (hL.below hB7.out)).mono ?_
      rintro e w8 ⟨rfl, hb⟩
      have hB8 := Lib.hid (Go.Proofs.YtkijoeihkajlcaaDoor.below_then hB7.out hb (Nat.le_refl _))
      clear hb
      go_wp2
      go_ret
      exact ⟨rfl, hB8.out⟩
end Go.Proofs.YtkijoeihkajlcaaDoor.PAll

set_option linter.unusedVariables false
set_option linter.unusedSimpArgs false
namespace Go.Proofs.YtkijoeihkajlcaaDoor.PAll
open Go.RowKit Go.Shelf
open Go.Proofs.YtkijoeihkajlcaaDoorW.PrintWords

theorem tokOf (s : ByteArray) (ps : List (Nat × Lx.Piece)) (k : Int) (h : Lx.toks s.data.toList = (ps, k)) : TokOf s (ps.map tokS) k := fun W hW => Tokens_calls s W hW ps k h
theorem wrongOf (s : ByteArray) (p y : Int) (h : Lx.wrongs s.data.toList = (p, y, 0)) : WrongOf s p y := fun W hW => Wrong_calls s W hW p y 0 h
set_option maxRecDepth 100000 in
set_option maxHeartbeats 8000000 in
theorem LexJoined_law (one other : ByteArray) (w : World) (hL : Laid w) :
    Calls Tryd.prog 6 #[.string one, .string other] w fun e w' => e = .returned (.bool true) ∧ Below w.heap.size w w' := by
  by_cases h1 : one.size ≤ 200
  · by_cases h2 : other.size ≤ 200
    · have l1 : one.data.toList.length = one.size := by simp
      have l2 : other.data.toList.length = other.size := by simp
      have hcd : (one ++ (⟨#[10]⟩ : ByteArray) ++ other).data.toList = one.data.toList ++ 10 :: other.data.toList := by simp
      have hnl := Lx.readAll_nl one.data.toList other.data.toList
      obtain ⟨pa, ea, hra⟩ : ∃ pa ea, Lx.readAll one.data.toList = (pa, ea) := ⟨_, _, rfl⟩
      obtain ⟨pb, eb, hrb⟩ : ∃ pb eb, Lx.readAll other.data.toList = (pb, eb) := ⟨_, _, rfl⟩
      rw [hra, hrb, ← hcd] at hnl
      have hlc : (one ++ (⟨#[10]⟩ : ByteArray) ++ other).data.toList.length ≤ 401 := by rw [hcd, List.length_append, List.length_cons]; omega
      obtain ⟨fa1, fa2, _, _⟩ := Lx.readAll_fits _ pa ea hra
      obtain ⟨fb1, fb2, _, _⟩ := Lx.readAll_fits _ pb eb hrb
      have hpb : ∀ t ∈ pb.map tokS, 0 ≤ t.f3 ∧ t.f3 ≤ (other.size : Int) := by
        intro t ht
        obtain ⟨x, hx, rfl⟩ := List.mem_map.1 ht
        have := (fb1 x hx).2
        show (0 : Int) ≤ (x.1 : Int) ∧ (x.1 : Int) ≤ _
        omega
      cases ea with
      | some e =>
        obtain ⟨p, y⟩ := e
        have hTa : TokOf one [] 4 := tokOf one [] 4 (by unfold Lx.toks; rw [if_neg (by omega), hra])
        have hTc : TokOf (one ++ (⟨#[10]⟩ : ByteArray) ++ other) [] 4 := tokOf (one ++ (⟨#[10]⟩ : ByteArray) ++ other) [] 4 (by unfold Lx.toks; rw [if_neg (by omega), hnl])
        have hWa := wrongOf one p y (by unfold Lx.wrongs; rw [if_neg (by omega), hra])
        have hWc := wrongOf (one ++ (⟨#[10]⟩ : ByteArray) ++ other) p y (by unfold Lx.wrongs; rw [if_neg (by omega), hnl])
        cases eb with
        | none => exact joined_bad0 one other h1 h2 [] (pb.map tokS) [] (Nat.zero_le _) (by rw [List.length_map]; omega) hpb p y hTa (tokOf other pb 0 (by unfold Lx.toks; rw [if_neg (by omega), hrb])) hTc hWc hWa w hL
        | some e => exact joined_bad4 one other h1 h2 [] [] [] (Nat.zero_le _) (Nat.zero_le _) (by simp) p y hTa (show TokOf other [] 4 from tokOf other [] 4 (by unfold Lx.toks; rw [if_neg (by omega), hrb])) hTc hWc hWa w hL
      | none =>
        have hTa := tokOf one pa 0 (by unfold Lx.toks; rw [if_neg (by omega), hra])
        cases eb with
        | some e =>
          obtain ⟨p, y⟩ := e
          simp only [Lx.shift, Option.map_some] at hnl
          have hp := readAll_wrong_le _ p y (by rw [hrb])
          exact joined_second one other h1 h2 (pa.map tokS) [] [] (by rw [List.length_map]; omega) (Nat.zero_le _) (by simp) _ p y (by omega) (by omega) rfl hTa (show TokOf other [] 4 from tokOf other [] 4 (by unfold Lx.toks; rw [if_neg (by omega), hrb])) (show TokOf (one ++ (⟨#[10]⟩ : ByteArray) ++ other) [] 4 from tokOf (one ++ (⟨#[10]⟩ : ByteArray) ++ other) [] 4 (by unfold Lx.toks; rw [if_neg (by omega), hnl]))
            (wrongOf (one ++ (⟨#[10]⟩ : ByteArray) ++ other) _ y (by
              unfold Lx.wrongs
              rw [if_neg (by omega), hnl]
              simp only [Prod.mk.injEq, and_true]
              rw [l1]
              push_cast
              omega)) (wrongOf other p y (by unfold Lx.wrongs; rw [if_neg (by omega), hrb])) w hL
        | none =>
          simp only [Lx.shift, Option.map_none] at hnl
          refine joined_both one other h1 h2 (pa.map tokS) (pb.map tokS) _ (by rw [List.length_map]; omega) (by rw [List.length_map]; omega) hpb (fun _ _ => trivial) ?_ hTa (tokOf other pb 0 (by unfold Lx.toks; rw [if_neg (by omega), hrb])) (tokOf (one ++ (⟨#[10]⟩ : ByteArray) ++ other) _ 0 (by unfold Lx.toks; rw [if_neg (by omega), hnl])) w hL
          rw [List.map_append, List.map_map, List.map_map]
          congr 1
    · have hkn := Lib.hid (fun w' (h : Laid w') => known_calls w' h)
      go_enter Tryd.func6, Tryd.ntmps6
      go_wp2_with fail
      refine (hkn.out _ hL).mono ?_
      rintro e w1 ⟨rfl, hb⟩
      have hB1 := Lib.hid hb
      clear hb
      go_wp2
      go_ret
      exact ⟨rfl, hB1.out⟩
  · have hkn := Lib.hid (fun w' (h : Laid w') => known_calls w' h)
    go_enter Tryd.func6, Tryd.ntmps6
    go_wp2_with fail
    refine (hkn.out _ hL).mono ?_
    rintro e w1 ⟨rfl, hb⟩
    have hB1 := Lib.hid hb
    clear hb
    go_wp2
    go_ret
    exact ⟨rfl, hB1.out⟩
end Go.Proofs.YtkijoeihkajlcaaDoor.PAll

set_option linter.unusedVariables false
set_option linter.unusedSimpArgs false
namespace Go.Proofs.YtkijoeihkajlcaaDoor
open Go.ChangeShapes Go.WideShapes Go.ChangeAt Go.RowKit Go.ChangeMaps

theorem ownK : ownKnob Tryd.prog.godebug = none := by kernel_rfl
def laidL : List (String × DataW Unit) := [("math/bits.deBruijn32tab", Rows.laid_math_bits_deBruijn32tab), ("math/bits.deBruijn64tab", Rows.laid_math_bits_deBruijn64tab), ("internal/strconv.uint64pow10", Rows.laid_internal_strconv_uint64pow10), ("unicode.White_Space", Rows.laid_unicode_White_Space), ("strings.asciiSpace", Rows.laid_strings_asciiSpace)]
theorem laid_of_met {W : World} (h : laidMetH Tryd.prog laidL W) : Laid W := by
  rw [MakeChecks.laidMetH_plain _ _ _ (by kernel_rfl)] at h
  have h3 := (show laidMet Tryd.prog [("internal/strconv.uint64pow10", Rows.laid_internal_strconv_uint64pow10), ("unicode.White_Space", Rows.laid_unicode_White_Space), ("strings.asciiSpace", Rows.laid_strings_asciiSpace)] W from h.tail.tail)
  have h5 := (show laidMet Tryd.prog [("strings.asciiSpace", Rows.laid_strings_asciiSpace)] W from h3.tail.tail)
  rw [show (Rows.laid_strings_asciiSpace : DataW Unit) = Lib.tabData .u8 Lib.asciiSpaceTab by kernel_rfl] at h5
  rw [show (Rows.laid_internal_strconv_uint64pow10 : DataW Unit) = Lib.tabData .u64 Lib.pow10Tab by kernel_rfl] at h3
  refine ⟨?_, ?_⟩
  · exact Lib.tabIs_of_head (g := (Tryd.prog.globalNamed "strings.asciiSpace").getD 0) (t := ((Tryd.prog.globals[(Tryd.prog.globalNamed "strings.asciiSpace").getD 0]?).map (·.type)).getD 0) (e := 5) (n := 256) (by kernel_rfl) (by kernel_rfl) (by kernel_rfl) (by kernel_rfl) (by kernel_rfl) (by kernel_rfl) h5
  · exact Lib.tabIs_of_head (g := (Tryd.prog.globalNamed "internal/strconv.uint64pow10").getD 0) (t := ((Tryd.prog.globals[(Tryd.prog.globalNamed "internal/strconv.uint64pow10").getD 0]?).map (·.type)).getD 0) (e := 133) (n := Lib.pow10Tab.length) (by kernel_rfl) (by kernel_rfl) (by kernel_rfl) (by kernel_rfl) (by kernel_rfl) (by kernel_rfl) h3

/-- Behind a call that keeps all that lay, where no argument holds an address. -/
theorem post_none {H : Type} {enc : TypeId × Value → H} {P : Program} {f : Func} {s : ChangeSpec} {apart fresh handsOn again : Bool} {W W' : World} {args : Array Value} {v : Value} {ds gs : List (DataW H)}
    (hW : DataW.Whole enc P f.params.toList s.vars apart W args.toList ds gs [])
    (hres : ∀ (b : Nat) (sp : Nat → Bool) (hd : Bool), DataW.TrodAll enc P W' b sp hd f.resultTypes.toList (v.resultList f.resultTypes.size) (s.fn H (ds ++ gs)).results [])
    (hargs : ∀ sp : Nat → Bool, DataW.TrodAll enc P W' 0 sp true f.params.toList args.toList (s.fn H (ds ++ gs)).args [])
    (hvars : ∀ sp : Nat → Bool, DataW.TrodVars enc P W' sp s.vars (s.fn H (ds ++ gs)).vars [])
    (hk : W.keptBut W' (fun p => p ∈ ([] : List MemPlace)))
    (hok : ∀ (j : Nat) (t : TypeId) (r : Value), f.resultTypes[j]? = some t → (v.resultList f.resultTypes.size)[j]? = some r → Value.okWide P W' .any 0 t r) :
    s.post enc P f apart fresh handsOn again W args v W' := by
  refine ⟨ds, gs, [], [], [], [], hW, hres _ _ _, hargs _, hvars _, World.keptBut_mono (fun p hp => by cases hp) hk, fun _ => ?_⟩
  refine ⟨hok, _, _, ([] ++ []) ++ [], ⟨[] ++ [], [], trodAll_append (hargs _) (hres _ _ _), hvars _, rfl, ?_, fun _ => List.nodup_nil⟩, fun p hp _ => by cases hp⟩
  intro b off hp
  cases hp
end Go.Proofs.YtkijoeihkajlcaaDoor

set_option linter.unusedVariables false
set_option linter.unusedSimpArgs false
namespace Go.Proofs.YtkijoeihkajlcaaDoor
open Go.ChangeShapes Go.WideShapes Go.ChangeAt Go.RowKit Go.ChangeMaps

set_option maxRecDepth 100000 in
theorem liftedLexJoined (os : Os) (started : os.Started) (H : Type) (enc : TypeId × Value → H) :
    ReturnsInHanded {} Tryd.checked os 6 .any (fun w args => (Rows.lexJoinedSpec.pre enc Tryd.prog Tryd.f6 Rows.lexJoinedRow.domain false w args ∧ laidMetH Tryd.prog Rows.lexJoinedRow.laid w) ∧ sizedMet enc Tryd.prog Tryd.f6 (OpenSpec.ofChange Rows.lexJoinedSpec) false w args)
      (Rows.lexJoinedSpec.post enc Tryd.prog Tryd.f6 false true false false) := by
  refine returnsInHanded_of_change_and (C := Tryd.checked) (X := fun w _ => laidMetH Tryd.prog laidL w) (fun _ _ _ hh h => h.of_heap hh) ownK started (by kernel_rfl) Tryd.func6
    (ChangeSpec.witness_shaped (enc := enc) (C := Tryd.checked) (os := os) (X := fun w _ => laidMetH Tryd.prog laidL w) false (World.laidAll Tryd.prog os laidL) #[.string ⟨#[]⟩, .string ⟨#[]⟩] 8 (World.laidAll_os _ _ _)
      (World.shaped_of_ZipB (by kernel_rfl) (by kernel_rfl)) (by kernel_rfl) (by kernel_rfl) (by kernel_rfl)
      (by rw [MakeChecks.laidMetH_plain _ _ _ (by kernel_rfl)]; exact laidMet_laidAll _ (by kernel_rfl) (by kernel_rfl))) ?_
  intro W base args ds gs before hval0 hW hc _ hL _
  have hval : ∀ (j : Nat) t v, Tryd.f6.params[j]? = some t → args[j]? = some v → Value.okWide Tryd.prog W .any base t v := hval0
  have hW' := hW
  obtain ⟨p, q, hA0, hV, rfl, _, _⟩ := hW
  have hA : DataW.TrodAll enc Tryd.prog W 0 (fun _ => true) true Tryd.f6.params.toList args.toList ds p := hA0
  rw [Tryd.params6] at hA hval
  obtain ⟨v0, vs0, d0, ds0, p0, q0, hargs, rfl, rfl, h0, r0⟩ := trodAll_cons hA
  obtain ⟨v1, vs1, d1, ds1, p1, q1, rfl, rfl, rfl, h1, r1⟩ := trodAll_cons r0
  obtain ⟨rfl, rfl, rfl⟩ := trodAll_nil r1
  obtain rfl : args = #[v0, v1] := by cases args; simp_all
  obtain ⟨rfl, rfl⟩ := trodVars_none hV
  obtain ⟨a0, rfl, rfl, rfl, w0⟩ := open_string Tryd.underlying9 (hval 0 9 v0 rfl rfl) h0
  obtain ⟨a1, rfl, rfl, rfl, w1⟩ := open_string Tryd.underlying9 (hval 1 9 v1 rfl rfl) h1
  simp only [List.append_nil, List.nil_append] at hW'
  refine (PAll.LexJoined_law a0 a1 W (laid_of_met hL)).mono fun e W' ⟨he, hw⟩ => ?_
  subst he
  exact ⟨_, rfl, post_none hW' (fun _ _ _ => trodAll_mk1 (shut_bool Tryd.underlying4 _)) (fun sp => trodAll_mk2 (shut_string Tryd.underlying9 w0) (shut_string Tryd.underlying9 w1)) (fun _ => rfl) (hw.frame _) (ok_one (by kernel_rfl) rfl (okWide_bool_mk Tryd.underlying4 _))⟩

theorem saidLexJoined : Rows.LexJoinedSaid :=
  OpenClaim.holds_of_wide 6 Tryd.f6 rfl rfl rfl rfl rfl rfl rfl ⟨rfl, rfl, rfl, rfl, rfl⟩ rfl rfl rfl rfl rfl (by kernel_rfl) Tryd.func6 (by kernel_rfl)
    (of_decide_eq_true (by kernel_rfl)) (by unfold Func.isWrapper; first | (rw [if_pos (by decide +kernel)]; kernel_rfl) | (rw [if_neg (by decide +kernel)]; exact ⟨rfl, rfl⟩))
    (fun os started H enc _ => liftedLexJoined os started H enc)
theorem lexJoined_card : Rows.LexJoinedCardSaid :=
  Claim7.holds_tied_plain_at .later [] [.data, .data, .data, .listed, .data] true (true, "5b4db42141422620d803431d3e586301e422e1e551833148ccaf224fee0bee00") true saidLexJoined (fun _ h => by cases h) (by kernel_rfl) (fun _ h => by cases h) lexJoined_row_tie rfl ⟨rfl, rfl⟩ (by kernel_rfl) rfl
    (fun f fn hf hfn => by
      obtain rfl : f = 6 := Option.some.inj ((show Tryd.prog.funcNamed "sward/swardlaw02.LexJoined" = some 6 by kernel_rfl).symm.trans hf) |>.symm
      obtain rfl : fn = Tryd.f6 := (Option.some.inj (Tryd.func6.symm.trans hfn)).symm
      exact ⟨by kernel_rfl, fun j t ht => by
        rw [Tryd.params6] at ht
        have hm : t ∈ [9, 9] := by simpa using Array.mem_of_getElem? ht
        have hall : ([9, 9].all fun u => !Tryd.prog.wantsStandIn u) = true := by kernel_rfl
        exact (show Tryd.prog.wantsStandIn t = false by simpa using List.all_eq_true.1 hall t hm)⟩)
    (by kernel_rfl)
#print axioms lexJoined_card
end Go.Proofs.YtkijoeihkajlcaaDoor
