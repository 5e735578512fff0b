/-
  Texts of this claim: ShV, ShAE.
-/
import Derived.Test.YtbfedeedicnedaaGreatSj23
set_option linter.unusedVariables false
set_option linter.unusedSimpArgs false
set_option maxHeartbeats 8000000
set_option maxRecDepth 100000
section
namespace Go.Proofs.YtbfedeedicnedaaGreat
open Go.RowKit
open Go.Proofs.YtbfedeedicnedaaGreatW.PrintWords
theorem search_in {H : Sh.Hp} {f root count x : Int} {A : Option Addr} {c : Nat} {r : Value} {w : World} (o : Obj) (h : ∀ W, Nodes W A H → Calls Tryz.prog 61 #[.slice A H.length c, shV f root count, .int .i64 x] W fun e w' => e = .returned r ∧ Below W.heap.size W w') (hC : Nodes w A H) :
    Calls Tryz.prog 61 #[.slice A H.length c, shV f root count, .int .i64 x] (w.alloc o) fun e w' => e = .returned r ∧ Below w.heap.size w w' := by
  refine (h _ (Kd.C_alloc hC o)).mono ?_
  rintro e w' ⟨rfl, hb⟩
  exact ⟨rfl, Below.trans ((Below.refl _ _).alloc (Nat.le_refl _) o) (hb.mono (by rw [World.size_alloc]; omega))⟩
theorem Has_of {H : Sh.Hp} {f root count x : Int} {A : Option Addr} {c : Nat} {b : Bool} {n e0 : Int} (w : World) (hC : Nodes w A H) (h : ∀ W, Nodes W A H → Calls Tryz.prog 61 #[.slice A H.length c, shV f root count, .int .i64 x] W fun e w' => e = .returned (.tuple #[.bool b, .int .i64 n, .int .i64 e0]) ∧ Below W.heap.size W w') :
    Calls Tryz.prog 17 #[.slice A H.length c, shV f root count, .int .i64 x] w fun e w' => e = .returned (.tuple #[.bool b, .int .i64 e0]) ∧ Below w.heap.size w w' := by
  have hcl := Lib.hid (search_in (.cells #[.int .i64 f, .int .i64 root, .int .i64 count] 25) h hC)
  clear h hC
  go_enter Tryz.func17, Tryz.ntmps17
  go_wp2_with fail
  refine (hcl.out).mono ?_
  rintro e w1 ⟨rfl, hb⟩
  replace hb := Lib.hid hb
  go_wp2
  go_ret2
  exact ⟨rfl, hb.out⟩
theorem Steps_of {H : Sh.Hp} {f root count x : Int} {A : Option Addr} {c : Nat} {b : Bool} {n e0 : Int} (w : World) (hC : Nodes w A H) (h : ∀ W, Nodes W A H → Calls Tryz.prog 61 #[.slice A H.length c, shV f root count, .int .i64 x] W fun e w' => e = .returned (.tuple #[.bool b, .int .i64 n, .int .i64 e0]) ∧ Below W.heap.size W w') :
    Calls Tryz.prog 27 #[.slice A H.length c, shV f root count, .int .i64 x] w fun e w' => e = .returned (.tuple #[.int .i64 n, .int .i64 e0]) ∧ Below w.heap.size w w' := by
  have hcl := Lib.hid (search_in (.cells #[.int .i64 f, .int .i64 root, .int .i64 count] 25) h hC)
  clear h hC
  go_enter Tryz.func27, Tryz.ntmps27
  go_wp2_with fail
  refine (hcl.out).mono ?_
  rintro e w1 ⟨rfl, hb⟩
  replace hb := Lib.hid hb
  go_wp2
  go_ret2
  exact ⟨rfl, hb.out⟩
namespace Sh
def ca : List Bool → Nat
  | [] => 0
  | b :: l => (if b then 1 else 0) + ca l
def cb : List Bool → List Bool → Nat
  | b :: l, d :: m => (if b && d then 1 else 0) + cb l m
  | _, _ => 0
theorem ca_at (a : List Bool) (i : Nat) (h : i < a.length) : ca (a.drop i) = (if a.getD i false then 1 else 0) + ca (a.drop (i + 1)) := by
  rw [List.drop_eq_getElem_cons h, List.getD_eq_getElem?_getD, List.getElem?_eq_getElem h]
  rfl
theorem cb_at (a b : List Bool) (i : Nat) (h : i < a.length) (h2 : i < b.length) : cb (a.drop i) (b.drop i) = (if a.getD i false && b.getD i false then 1 else 0) + cb (a.drop (i + 1)) (b.drop (i + 1)) := by
  rw [List.drop_eq_getElem_cons h, List.drop_eq_getElem_cons h2, List.getD_eq_getElem?_getD, List.getElem?_eq_getElem h, List.getD_eq_getElem?_getD, List.getElem?_eq_getElem h2]
  rfl
end Sh
theorem bool_cell {W : World} {g : Nat} {bs : List Bool} (h : W.heap[g]? = some (.cells (bs.map Value.bool).toArray 4 (0, 0))) (i : Nat) (hi : i < bs.length) : W.cell? ⟨g, i, none⟩ = some (.bool (bs.getD i false)) := by
  rw [blk_cell h i]
  simp [List.getD_eq_getElem?_getD, List.getElem?_eq_getElem hi]
theorem Nodes_calls (H : Sh.Hp) (fa ra na fb rb nb : Int) (A : Option Addr) (c : Nat) (w : World) (ma mb : List Bool) (hC : Nodes w A H) (hbig : ∀ p ∈ H, p.2.length ≤ 1000000) (hl : H.length ≤ 10000) (hLa : ListsF H fa) (hLb : ListsF H fb)
    (ha : (Sh.listed H fa ra na).2 = 0) (hb : (Sh.listed H fb rb nb).2 = 0) (hra : Sh.walkR H (H.length + 1) ra (List.replicate H.length false) = some ma) (hrb : Sh.walkR H (H.length + 1) rb (List.replicate H.length false) = some mb) :
    Calls Tryz.prog 18 #[.slice A H.length c, shV fa ra na, shV fb rb nb] w fun e w' => e = .returned (.tuple #[.int .i64 (Sh.ca ma : Nat), .int .i64 (Sh.cb ma mb : Nat), .int .i64 0]) ∧ Below w.heap.size w w' := by
  obtain ⟨W0, hW0⟩ : ∃ W0, W0 = ((w.alloc (.cells #[.int .i64 fa, .int .i64 ra, .int .i64 na] 25)).alloc (.cells #[.int .i64 fb, .int .i64 rb, .int .i64 nb] 25)).alloc (.cells #[.int .i64 fa, .int .i64 ra, .int .i64 na, .int .i64 fb, .int .i64 rb, .int .i64 nb] 25) := ⟨_, rfl⟩
  have hchkA := Lib.hid (fun W (hW : Nodes W A H) => by have := Check_calls H fa ra na A c W hW hLa; rw [ha] at this; exact this)
  have hchkB := Lib.hid (fun W (hW : Nodes W A H) => by have := Check_calls H fb rb nb A c W hW hLb; rw [hb] at this; exact this)
  have hreA := Lib.hid (fun W (hW : Nodes W A H) => reached_calls A c H ra ma W hW hbig hl hra)
  have hreB := Lib.hid (fun W (hW : Nodes W A H) => reached_calls A c H rb mb W hW hbig hl hrb)
  have hsz : W0.heap.size = w.heap.size + 3 := by rw [hW0, World.size_alloc, World.size_alloc, World.size_alloc]
  have b1 : W0.heap[w.heap.size]? = some (.cells #[.int .i64 fa, .int .i64 ra, .int .i64 na] 25 (0, 0)) := by
    rw [hW0]
    exact blk_alloc (blk_alloc (heap_alloc_new w _) _) _
  have b2 : W0.heap[w.heap.size + 1]? = some (.cells #[.int .i64 fb, .int .i64 rb, .int .i64 nb] 25 (0, 0)) := by
    have := blk_alloc (heap_alloc_new (w.alloc (.cells #[.int .i64 fa, .int .i64 ra, .int .i64 na] 25)) (.cells #[.int .i64 fb, .int .i64 rb, .int .i64 nb] 25)) (.cells #[.int .i64 fa, .int .i64 ra, .int .i64 na, .int .i64 fb, .int .i64 rb, .int .i64 nb] 25)
    rw [World.size_alloc] at this
    rw [hW0]
    exact this
  have b3 : W0.heap[w.heap.size + 2]? = some (.cells #[.int .i64 fa, .int .i64 ra, .int .i64 na, .int .i64 fb, .int .i64 rb, .int .i64 nb] 25 (0, 0)) := by
    have := heap_alloc_new ((w.alloc (.cells #[.int .i64 fa, .int .i64 ra, .int .i64 na] 25)).alloc (.cells #[.int .i64 fb, .int .i64 rb, .int .i64 nb] 25)) (.cells #[.int .i64 fa, .int .i64 ra, .int .i64 na, .int .i64 fb, .int .i64 rb, .int .i64 nb] 25)
    rw [World.size_alloc, World.size_alloc] at this
    rw [hW0]
    exact this
  have hB0 : Below w.heap.size w W0 := by
    rw [hW0]
    exact (((Below.refl _ _).alloc (Nat.le_refl _) _).alloc (by rw [World.size_alloc]; omega) _).alloc (by rw [World.size_alloc, World.size_alloc]; omega) _
  have hNod := Lib.hid (fun W (hW : Below W0.heap.size W0 W) => (Kd.C_below hC (hB0.trans (hW.mono (by omega))) : Nodes W A H))
  have hBw := Lib.hid (fun W (hW : Below W0.heap.size W0 W) => (hB0.trans (hW.mono (by omega)) : Below w.heap.size w W))
  have q1 := Lib.hid (fun W (hW : Below W0.heap.size W0 W) (i : Nat) => (by rw [hW.cell (p := ⟨w.heap.size, i, none⟩) (by show w.heap.size < _; omega)]; exact blk_cell b1 i : W.cell? ⟨w.heap.size, i, none⟩ = (#[.int .i64 fa, .int .i64 ra, .int .i64 na] : Array Value)[i]?))
  have q2 := Lib.hid (fun W (hW : Below W0.heap.size W0 W) (i : Nat) => (by rw [hW.cell (p := ⟨w.heap.size + 1, i, none⟩) (by show w.heap.size + 1 < _; omega)]; exact blk_cell b2 i : W.cell? ⟨w.heap.size + 1, i, none⟩ = (#[.int .i64 fb, .int .i64 rb, .int .i64 nb] : Array Value)[i]?))
  have q3 := Lib.hid (fun W (hW : Below W0.heap.size W0 W) (i : Nat) => (by rw [hW.cell (p := ⟨w.heap.size + 2, i, none⟩) (by show w.heap.size + 2 < _; omega)]; exact blk_cell b3 i : W.cell? ⟨w.heap.size + 2, i, none⟩ = (#[.int .i64 fa, .int .i64 ra, .int .i64 na, .int .i64 fb, .int .i64 rb, .int .i64 nb] : Array Value)[i]?))
  clear hC hbig hLa hLb ha hb hra hrb b1 b2 b3 hB0 hsz
  go_enter Tryz.func18, Tryz.ntmps18
  go_wp2
  rw [← hW0]
  clear hW0
  have r0 := (q3.out W0 (Below.refl _ _) 0)
  have r1 := (q3.out W0 (Below.refl _ _) 1)
  have r2 := (q3.out W0 (Below.refl _ _) 2)
  refine wp_loop_rounds 3 ?_
  rw [rounds_succ]
  go_wp2_with fail
  refine (hchkA.out _ (hNod.out _ ((Below.refl _ _).alloc (Nat.le_refl _) _))).mono ?_
  rintro e w1 ⟨rfl, hb1⟩
  have hB1 : Below W0.heap.size W0 w1 := Below.trans ((Below.refl _ _).alloc (Nat.le_refl _) _) (hb1.mono (by rw [World.size_alloc]; omega))
  have r3 := (q3.out w1 hB1 3)
  have r4 := (q3.out w1 hB1 4)
  have r5 := (q3.out w1 hB1 5)
  replace hB1 := Lib.hid hB1
  clear hb1 r0 r1 r2
  go_wp2
  rw [rounds_succ]
  go_wp2_with fail
  have hB1a := Lib.hid (hB1.out.alloc hB1.out.size (.cells #[.int .i64 fb, .int .i64 rb, .int .i64 nb] 25))
  refine (hchkB.out _ (hNod.out _ hB1a.out)).mono ?_
  rintro e w2 ⟨rfl, hb2⟩
  have hB2 : Below W0.heap.size W0 w2 := Below.trans hB1a.out (hb2.mono hB1a.out.size)
  have r6 := (q2.out w2 hB2 1)
  replace hB2 := Lib.hid hB2
  clear hb2 r3 r4 r5
  go_wp2
  rw [rounds_succ]
  go_wp2_with fail
  refine (hreB.out _ (hNod.out _ hB2.out)).mono ?_
  rintro e w3 ⟨gb, rfl, hrowb, hlb, hgb, hb3⟩
  have hB3 : Below W0.heap.size W0 w3 := Below.trans hB2.out (hb3.mono hB2.out.size)
  have r7 := (q1.out w3 hB3 1)
  replace hB3 := Lib.hid hB3
  replace hrowb := Lib.hid hrowb
  clear hb3 r6
  go_wp2_with fail
  refine (hreA.out _ (hNod.out _ hB3.out)).mono ?_
  rintro e w4 ⟨ga, rfl, hrowa, hla, hga, hb4⟩
  have hB4 := Lib.hid (Below.trans hB3.out (hb4.mono hB3.out.size))
  replace hrowb := Lib.hid (blk_below hrowb.out hb4)
  replace hrowa := Lib.hid hrowa
  obtain ⟨n, hn⟩ : ∃ n, n = H.length := ⟨_, rfl⟩
  rw [← hn] at hla hlb ⊢
  rw [← hn] at hl
  replace hla := Lib.hid hla
  replace hlb := Lib.hid hlb
  clear hb4 r7
  go_wp2
  go_loopg [13, 14, 41] n (fun g v13 v14 v41 wr => ∃ (x y i : Nat), v13 = .int .i64 x ∧ v14 = .int .i64 y ∧ v41 = .int .i64 i ∧ i ≤ n ∧ x ≤ i ∧ y ≤ i ∧ Hid (g + i = n) ∧ wr = w4 ∧ Hid (Sh.ca ma = x + Sh.ca (ma.drop i)) ∧ Hid (Sh.cb ma mb = y + Sh.cb (ma.drop i) (mb.drop i)))
  case atStart => exact ⟨0, 0, 0, rfl, rfl, rfl, Nat.zero_le _, Nat.le_refl _, Nat.le_refl _, Lib.hid rfl, rfl, Lib.hid (Nat.zero_add _).symm, Lib.hid (Nat.zero_add _).symm⟩
  case round =>
    obtain ⟨x, y, i, rfl, rfl, rfl, hi, hx, hy, hg, rfl, hX, hY⟩ := hrel
    by_cases hlt : i < n
    · have u1 := bool_cell hrowa.out i (by have := hla.out; omega)
      have u2 := bool_cell hrowb.out i (by have := hlb.out; omega)
      have e1 := Sh.ca_at ma i (by have := hla.out; omega)
      have e2 := Sh.cb_at ma mb i (by have := hla.out; omega) (by have := hlb.out; omega)
      cases c1 : ma.getD i false
      · rw [c1] at u1 e1 e2
        replace e1 := Lib.hid (show Sh.ca ma = x + Sh.ca (ma.drop (i + 1)) by rw [hX.out, e1]; simp)
        replace e2 := Lib.hid (show Sh.cb ma mb = y + Sh.cb (ma.drop (i + 1)) (mb.drop (i + 1)) by rw [hY.out, e2]; simp)
        clear u2 c1
        go_wp2
        go_roundg (n - (i + 1))
        case measure => have := hg.out; omega
        case rel => exact ⟨x, y, i + 1, rfl, rfl, by go_num, by omega, by omega, by omega, Lib.hid (by omega), rfl, e1, e2⟩
      · rw [c1] at u1 e1 e2
        replace e1 := Lib.hid (show Sh.ca ma = (x + 1) + Sh.ca (ma.drop (i + 1)) by rw [hX.out, e1]; simp; omega)
        cases c2 : mb.getD i false
        · rw [c2] at u2 e2
          replace e2 := Lib.hid (show Sh.cb ma mb = y + Sh.cb (ma.drop (i + 1)) (mb.drop (i + 1)) by rw [hY.out, e2]; simp)
          clear c1 c2
          go_wp2
          go_roundg (n - (i + 1))
          case measure => have := hg.out; omega
          case rel => exact ⟨x + 1, y, i + 1, by go_num, rfl, by go_num, by omega, by omega, by omega, Lib.hid (by omega), rfl, e1, e2⟩
        · rw [c2] at u2 e2
          replace e2 := Lib.hid (show Sh.cb ma mb = (y + 1) + Sh.cb (ma.drop (i + 1)) (mb.drop (i + 1)) by rw [hY.out, e2]; simp; omega)
          clear c1 c2
          go_wp2
          go_roundg (n - (i + 1))
          case measure => have := hg.out; omega
          case rel => exact ⟨x + 1, y + 1, i + 1, by go_num, by go_num, by go_num, by omega, by omega, by omega, Lib.hid (by omega), rfl, e1, e2⟩
    · have f1 : Sh.ca ma = x := by rw [hX.out, List.drop_of_length_le (by have := hla.out; omega)]; rfl
      have f2 : Sh.cb ma mb = y := by rw [hY.out, List.drop_of_length_le (by have := hla.out; omega)]; rfl
      replace f1 := Lib.hid f1
      replace f2 := Lib.hid f2
      go_wp2
      go_ret3
      exact ⟨by rw [f1.out, f2.out]; rfl, hBw.out _ hB4.out⟩
end Go.Proofs.YtbfedeedicnedaaGreat
end
section
namespace Go.Proofs.YtbfedeedicnedaaGreat
open Go.RowKit
open Go.Proofs.YtbfedeedicnedaaGreatW.PrintWords
theorem results_tct {fn : Func} {p u v : Tmp} {ty : TypeId} (h : fn.results = #[.tmp u, .cell p ty, .tmp v]) (tmps : Array Value) (w : World) (g : Nat) (cs : Array Value)
    (hp : tmps.getD p undef = .pointer (some ⟨g, 0, none⟩)) (hl : (loadVar ty ⟨g, 0, none⟩).run Tryz.prog w = .ok (.agg cs) w) :
    (results fn tmps).run Tryz.prog w = .ok (.tuple #[tmps.getD u undef, .agg cs, tmps.getD v undef]) w := by
  have hp' : tmps[p]?.getD undef = .pointer (some ⟨g, 0, none⟩) := by simpa using hp
  simp [results, h, hp', asAddr, hl]
theorem load_shape {w : World} {g : Nat} {cs : Array Value} (h : w.heap[g]? = some (.cells cs 25 (0, 0))) (hs : cs.size = 3) : (loadVar 25 ⟨g, 0, none⟩).run Tryz.prog w = .ok (.agg cs) w :=
  run_loadVar_row w g 25 25 cs (0, 0) _ h Tryz.underlying25 rfl (by rw [hs]; kernel_rfl)
namespace Sh
def sizeH : Nat → Nat → Nat → Nat
  | 0, c, _ => c
  | g + 1, c, n => if c < 2 * n then sizeH g (2 * c) n else c
def layF (f : Int) (H : Hp) (l : List Int) : Hp × Int :=
  if f = 1 then (H ++ [(l, [])], H.length) else if f = 2 then layP H l else if f = 3 then layT (l.length + 1) H l else if f = 4 then buildT 4 H l
  else (H ++ [(layH l (sizeH 20 8 l.length), [])], H.length)
end Sh
def LaysF (H : Sh.Hp) (l : List Int) (f : Int) : Prop := ∀ (ty k : Nat), (ty = 154 ∧ k = 162 ∧ f = 1) ∨ (ty = 155 ∧ k = 167 ∧ f = 2) ∨ (ty = 119 ∧ k = 154 ∧ f = 3) ∨ (ty = 156 ∧ k = 180 ∧ f = 4) ∨ (ty = 157 ∧ k = 190 ∧ f = 5) → ∀ (base hb : Nat) (w : World) (A : Option Addr) (c : Nat), HeapAt w base hb H → Low w base A l → l.length ≤ c →
  Calls Tryz.prog k #[.agg #[], .pointer (some ⟨hb, 0, none⟩), .slice A l.length c] w fun e w' => e = .returned (.int .i64 (Sh.layF f H l).2) ∧ HeapAt w' base hb (Sh.layF f H l).1 ∧ Below base w w'
theorem trlay_calls (base hb : Nat) (H : Sh.Hp) (w : World) (hH : HeapAt w base hb H) (l : List Int) (A : Option Addr) (c : Nat) (hL : Low w base A l) (hc : l.length ≤ c) (hn : l.length ≤ 5000) (hx : ∀ x ∈ l, 0 ≤ x ∧ x ≤ 1023) (hl : H.length ≤ 100000) :
    Calls Tryz.prog 180 #[.agg #[], .pointer (some ⟨hb, 0, none⟩), .slice A l.length c] w fun e w' => e = .returned (.int .i64 (Sh.buildT 4 H l).2) ∧ HeapAt w' base hb (Sh.buildT 4 H l).1 ∧ Below base w w' := by
  have hsz : base ≤ w.heap.size := by have := hH.1; have := hH.lt; omega
  have hB0 := Lib.hid (show Below base w (w.alloc (.cells #[] 156)) from (Below.refl _ _).alloc hsz _)
  have hcl := Lib.hid (build_calls base hb 4 (Nat.le_refl _) H (w.alloc (.cells #[] 156)) (fun _ => True) (fun _ _ => trivial) (HeapAt.ok (hH.step ((Below.refl _ _).alloc (Nat.le_refl _) _))) l A c (hL.step hB0.out) hc hn hx (by omega))
  clear hH hL hx
  go_enter Tryz.func180, Tryz.ntmps180
  go_wp2_with fail
  refine (hcl.out).mono ?_
  rintro e w1 ⟨rfl, h1, h2, _⟩
  have h1' := Lib.hid h1.at
  have h2' := Lib.hid (hB0.out.trans h2)
  clear h1 h2
  go_wp2
  go_ret
  exact ⟨rfl, h1'.out, h2'.out⟩
theorem laysF_some {H : Sh.Hp} {l : List Int} {f : Int} (hf : f ≠ 5) (hn : l.length ≤ 5000) (hx : Sh.Els l) (hl : H.length ≤ 100000) : LaysF H l f := by
  intro ty k hk base hb w A c hH hL hc
  rcases hk with ⟨rfl, rfl, rfl⟩ | ⟨rfl, rfl, rfl⟩ | ⟨rfl, rfl, rfl⟩ | ⟨rfl, rfl, rfl⟩ | ⟨rfl, rfl, rfl⟩
  · exact alay_calls hH hL (by omega) (by omega)
  · exact play_calls base hb H w hH l A c hL hn hx.2 (by omega)
  · exact tlay_calls base hb l.length H w hH l A c (-1) 1024 hL hc (Nat.le_refl _) (by omega) hx.1 (fun y hy => by have := hx.2 y hy; omega) (by omega)
  · exact trlay_calls base hb H w hH l A c hL hc hn hx.2 hl
  · exact absurd rfl hf
def Out3 (base : Nat) (w' : World) (e : Ending) (K : Sh.Hp) (f root cnt err : Int) : Prop := ∃ v, e = .returned (.tuple #[v, shV f root cnt, .int .i64 err]) ∧ Kd.R kSN 95 w' base (fun _ => True) v (sn K)
theorem out_set {w : World} {base q : Nat} {v : Value} {K : Sh.Hp} {cs : Array Value} (h : Kd.R kSN 95 w base (fun _ => True) v (sn K)) (hq : w.heap[q]? = some (.cells cs 25 (0, 0))) (x y z : Value) : Kd.R kSN 95 (((w.setCell ⟨q, 0, none⟩ x).setCell ⟨q, 1, none⟩ y).setCell ⟨q, 2, none⟩ z) base (fun _ => True) v (sn K) :=
  Kd.R_set (Kd.R_set (Kd.R_set h hq (fun q hq => by rcases kSN_E q hq with rfl | rfl <;> decide) 0 x) (blk_set hq 0 x) (fun q hq => by rcases kSN_E q hq with rfl | rfl <;> decide) 1 y) (blk_set (blk_set hq 0 x) 1 y) (fun q hq => by rcases kSN_E q hq with rfl | rfl <;> decide) 2 z
theorem below_set3 {w w1 : World} {q : Nat} (h : Below q w w1) (x y z : Value) : Below q w (((w1.setCell ⟨q, 0, none⟩ x).setCell ⟨q, 1, none⟩ y).setCell ⟨q, 2, none⟩ z) :=
  ((h.setCell (p := ⟨q, 0, none⟩) (Nat.le_refl _) x).setCell (p := ⟨q, 1, none⟩) (Nat.le_refl _) y).setCell (p := ⟨q, 2, none⟩) (Nat.le_refl _) z
theorem load_set3 {w : World} {q : Nat} {a b c x y z : Value} (h : w.heap[q]? = some (.cells #[a, b, c] 25 (0, 0))) : (loadVar 25 ⟨q, 0, none⟩).run Tryz.prog (((w.setCell ⟨q, 0, none⟩ x).setCell ⟨q, 1, none⟩ y).setCell ⟨q, 2, none⟩ z) = .ok (.agg #[x, y, z]) (((w.setCell ⟨q, 0, none⟩ x).setCell ⟨q, 1, none⟩ y).setCell ⟨q, 2, none⟩ z) :=
  load_shape (blk_set (blk_set (blk_set h 0 x) 1 y) 2 z) rfl
theorem made_calls (H : Sh.Hp) (f : Int) (l : List Int) (A : Option Addr) (c : Nat) (A1 : Option Addr) (c1 : Nat) (w : World) (hC : Nodes w A H) (hL : Kd.C kI w A1 l.length l) (hc1 : l.length ≤ c1) (hf1 : 1 ≤ f) (hf5 : f ≤ 5) (hlay : LaysF H l f) (hl : H.length ≤ 100000) (hbig : ∀ p ∈ H, p.1.length ≤ 1000000 ∧ p.2.length ≤ 1000000) (hll : l.length ≤ 1000000) :
    Calls Tryz.prog 78 #[.slice A H.length c, .int .i64 f, .slice A1 l.length c1] w fun e w' => Out3 w.heap.size w' e (Sh.layF f H l).1 f (Sh.layF f H l).2 l.length 0 ∧ Below w.heap.size w w' := by
  have hB0 := Lib.hid (show Below w.heap.size w (w.alloc (.cells #[.int .i64 0, .int .i64 0, .int .i64 0] 25)) from (Below.refl _ _).alloc (Nat.le_refl _) _)
  have hgr := Lib.hid (grown_calls A c H (w.alloc (.cells #[.int .i64 0, .int .i64 0, .int .i64 0] 25)) (Kd.C_alloc hC _) hl hbig)
  have hof := Lib.hid (fun W => of_calls f W hf1 hf5)
  have hrow := Lib.hid (heap_alloc_new w (.cells #[.int .i64 0, .int .i64 0, .int .i64 0] 25))
  have hs0 := Lib.hid (show (w.alloc (.cells #[.int .i64 0, .int .i64 0, .int .i64 0] 25)).heap.size = w.heap.size + 1 from World.size_alloc _ _)
  obtain ⟨ty, k, hfv, hk, hm⟩ : ∃ (ty k : Nat), formV f = .iface ty (.agg #[]) ∧ ((ty = 154 ∧ k = 162 ∧ f = 1) ∨ (ty = 155 ∧ k = 167 ∧ f = 2) ∨ (ty = 119 ∧ k = 154 ∧ f = 3) ∨ (ty = 156 ∧ k = 180 ∧ f = 4) ∨ (ty = 157 ∧ k = 190 ∧ f = 5)) ∧ (∀ W : World, (method 312 ty (.agg #[]) "sward/shape.lay").run Tryz.prog W = .ok (k, .agg #[]) W) := by
    rcases five hf1 hf5 with rfl | rfl | rfl | rfl | rfl
    · exact ⟨154, 162, rfl, by omega, fun _ => by kernel_rfl⟩
    · exact ⟨155, 167, rfl, by omega, fun _ => by kernel_rfl⟩
    · exact ⟨119, 154, rfl, by omega, fun _ => by kernel_rfl⟩
    · exact ⟨156, 180, rfl, by omega, fun _ => by kernel_rfl⟩
    · exact ⟨157, 190, rfl, by omega, fun _ => by kernel_rfl⟩
  have hls := Lib.hid (hlay ty k hk)
  rw [hfv] at hof
  have hLh := Lib.hid hL
  generalize Sh.layF f H l = R at *
  obtain ⟨n, hn⟩ : ∃ n, n = l.length := ⟨_, rfl⟩
  rw [← hn] at hc1 hll hls ⊢
  replace hn := Lib.hid hn
  clear hC hL hlay hfv hbig
  rcases hk with ⟨rfl, rfl, -⟩ | ⟨rfl, rfl, -⟩ | ⟨rfl, rfl, -⟩ | ⟨rfl, rfl, -⟩ | ⟨rfl, rfl, -⟩
  all_goals
    go_enter Tryz.func78, Tryz.ntmps78
    go_wp2_with fail
    refine (hgr.out).mono ?_
    rintro e w1 ⟨hb, rfl, hH1, hB1⟩
    have hH1' := Lib.hid hH1
    have hB1' := Lib.hid hB1
    have hLw := Lib.hid (show Low w1 (w.alloc (.cells #[.int .i64 0, .int .i64 0, .int .i64 0] 25)).heap.size A1 l from fun W hW => Kd.C_below hLh.out (hB0.out.trans ((hB1.trans hW).mono (by have := hs0.out; omega))))
    clear hH1 hB1
    go_wp2_with fail
    refine (hof.out _).mono ?_
    rintro e w2 ⟨rfl, hB2⟩
    have hH2 := Lib.hid (hH1'.out.step hB2)
    have hL2 := Lib.hid (hLw.out.step (hB2.mono hB1'.out.size))
    have hB2' := Lib.hid (hB1'.out.trans (hB2.mono hB1'.out.size))
    clear hB2
    go_wp2_with fail
    refine (hls.out _ _ _ _ _ hH2.out hL2.out hc1).mono ?_
    rintro e w3 ⟨rfl, hH3, hB3⟩
    have hB3' := Lib.hid (hB2'.out.trans hB3)
    obtain ⟨hb0, v3, hv3, hrr⟩ := hH3
    obtain ⟨A2, c2, rfl⟩ := Kd.R_slice hrr
    rw [sn_len] at hv3
    rw [sn_len] at hrr
    have hcell : w3.cell? ⟨hb, 0, none⟩ = some (.slice A2 R.1.length c2) := by rw [blk_cell hv3]; rfl
    replace hrr := Lib.hid hrr
    have hr3 := blk_below hrow.out hB3'.out
    have hfz3 := blk_frozen hr3
    have hc30 : w3.cell? ⟨w.heap.size, 0, none⟩ = some (.int .i64 0) := by rw [blk_cell hr3]; rfl
    have hc31 : w3.cell? ⟨w.heap.size, 1, none⟩ = some (.int .i64 0) := by rw [blk_cell hr3]; rfl
    have hc32 : w3.cell? ⟨w.heap.size, 2, none⟩ = some (.int .i64 0) := by rw [blk_cell hr3]; rfl
    replace hr3 := Lib.hid hr3
    clear hv3 hB3 hb0
    go_wp2
    refine bodyPost_ret (results_tct rfl _ _ w.heap.size #[.int .i64 f, .int .i64 R.2, .int .i64 n] rfl (load_set3 hr3.out)) rfl ?_
    exact ⟨⟨_, rfl, Kd.R_lower (out_set hrr.out hr3.out _ _ _) (by have := hs0.out; omega)⟩, below_set3 (hB0.out.trans (hB3'.out.mono (by have := hs0.out; omega))) _ _ _⟩
end Go.Proofs.YtbfedeedicnedaaGreat
end
