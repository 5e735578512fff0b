/-
  Texts of this claim: RAll0, ShSpec, ShTree, ShTree2, ShTree3.
-/
import Derived.Test.YtbfedeedicnedaaGreatSj03
import Derived.Test.YtbfedeedicnedaaGreatProg
import Derived.Laws.StructEq
set_option linter.unusedVariables false
set_option linter.unusedSimpArgs false
set_option maxHeartbeats 8000000
set_option maxRecDepth 100000
section
namespace Go.Proofs.YtbfedeedicnedaaGreat.PAll
open Go.RowKit Go.Proofs.YtbfedeedicnedaaGreatW.PrintWords Go.Proofs.YtbfedeedicnedaaGreatW.PrintLast Go.Proofs.YtbfedeedicnedaaGreatW.PrintMore
attribute [local go_sem] max2_int min2_int max_two min_two max_three min_three max_four min_four
def errW : Option Int → Value
  | none => .nilIface
  | some c => .iface 0 (.int .i64 c)
theorem errW_none : errW none = .nilIface := rfl
theorem errW_some (c : Int) : errW (some c) = .iface 0 (.int .i64 c) := rfl
theorem info3 : (Tryz.prog.info? 3).map (fun i => (i.zero, i.size, i.bytes)) = some (some (.int .i64 0), 1, 8) := by kernel_rfl
theorem info95 : (Tryz.prog.info? 95).map (fun i => (i.zero, i.size, i.bytes)) = some (some (.agg #[(.slice none 0 0), (.slice none 0 0)]), 2, 48) := by kernel_rfl
structure S95 where
  f0 : (List Int)
  f1 : (List Int)
def z95 : S95 := ⟨([] : List Int), ([] : List Int)⟩
def k95 : Kd S95 := Kd.iso (Kd.pair (Kd.slice 3 (Kd.int .i64)) (Kd.slice 3 (Kd.int .i64))) (fun x : S95 => (x.f0, x.f1))
theorem k95_heap : Kd.Heap k95 := Kd.heap_iso _ (Kd.heap_pair (Kd.heap_slice 3 (Kd.heap_int .i64)) (Kd.heap_slice 3 (Kd.heap_int .i64)))
theorem k95_open {w : World} {x : S95} {cs : List Value} (h : k95.K w x cs) : ∃ A0 c0 A1 c1, cs = [.slice A0 x.f0.length c0, .slice A1 x.f1.length c1] ∧ x.f0.length ≤ c0 ∧ (Kd.int .i64).C w A0 x.f0.length x.f0 ∧ x.f1.length ≤ c1 ∧ (Kd.int .i64).C w A1 x.f1.length x.f1 := by
  obtain ⟨_, _, rfl, ⟨A0, c0, rfl, l0, g0⟩, ⟨A1, c1, rfl, l1, g1⟩⟩ := h
  exact ⟨A0, c0, A1, c1, rfl, l0, g0, l1, g1⟩
theorem k95_openM {w : World} {base : Nat} {ok : Nat → Prop} {x : S95} {cs : List Value} (h : k95.M w base ok x cs) : ∃ v0 v1, cs = [v0, v1] ∧ (Kd.int .i64).R 3 w base ok v0 x.f0 ∧ (Kd.int .i64).R 3 w base ok v1 x.f1 := by
  obtain ⟨_, _, rfl, ⟨v0, rfl, g0⟩, ⟨v1, rfl, g1⟩⟩ := h
  exact ⟨v0, v1, rfl, g0, g1⟩
theorem k95_mk (w : World) (x : S95) {A0 : Option Addr} {c0 : Nat} (l0 : x.f0.length ≤ c0) (g0 : (Kd.int .i64).C w A0 x.f0.length x.f0) {A1 : Option Addr} {c1 : Nat} (l1 : x.f1.length ≤ c1) (g1 : (Kd.int .i64).C w A1 x.f1.length x.f1) : k95.K w x [.slice A0 x.f0.length c0, .slice A1 x.f1.length c1] := ⟨[.slice A0 x.f0.length c0], [.slice A1 x.f1.length c1], rfl, ⟨A0, c0, rfl, l0, g0⟩, ⟨A1, c1, rfl, l1, g1⟩⟩
theorem k95_mkM (w : World) (base : Nat) (ok : Nat → Prop) (x : S95) {v0 : Value} (g0 : (Kd.int .i64).R 3 w base ok v0 x.f0) {v1 : Value} (g1 : (Kd.int .i64).R 3 w base ok v1 x.f1) : k95.M w base ok x [v0, v1] := ⟨[v0], [v1], rfl, ⟨v0, rfl, g0⟩, ⟨v1, rfl, g1⟩⟩
theorem k95_openF {W : World} {ok : Nat → Prop} {x : S95} {cs : List Value} (h : Kd.FK k95 W ok x cs) : ∃ A0 c0 A1 c1, cs = [.slice A0 x.f0.length c0, .slice A1 x.f1.length c1] ∧ x.f0.length ≤ c0 ∧ Kd.F (Kd.int .i64) W ok A0 x.f0.length x.f0 ∧ x.f1.length ≤ c1 ∧ Kd.F (Kd.int .i64) W ok A1 x.f1.length x.f1 := by
  obtain ⟨A0, c0, A1, c1, rfl, l0, _, l1, _⟩ := k95_open (Kd.FK_now h)
  exact ⟨A0, c0, A1, c1, rfl, l0, (fun W' hW => by obtain ⟨A0_, c0_, A1_, c1_, he, l0_, g0_, l1_, g1_⟩ := k95_open (h W' hW); injection (Option.some.inj (show some (Value.slice A0 x.f0.length c0) = some (Value.slice A0_ x.f0.length c0_) from congrArg (fun l => l[0]?) he)) with ha_ _ _; rw [ha_]; exact g0_), l1, (fun W' hW => by obtain ⟨A0_, c0_, A1_, c1_, he, l0_, g0_, l1_, g1_⟩ := k95_open (h W' hW); injection (Option.some.inj (show some (Value.slice A1 x.f1.length c1) = some (Value.slice A1_ x.f1.length c1_) from congrArg (fun l => l[1]?) he)) with ha_ _ _; rw [ha_]; exact g1_)⟩
def rd_T95 (xs : List S95) (i : Int) : S95 := xs.getD i.toNat z95
theorem at_T95 {w : World} {A : Option Addr} {n : Nat} {xs : List S95} (h : Kd.C k95 w A n xs) (i : Int) (h0 : 0 ≤ i) (h1 : i < n) : ∃ ad A0 c0 A1 c1, A = some ad ∧ w.cell? (ad.add (i.toNat * 2)) = some (.slice A0 (rd_T95 xs i).f0.length c0) ∧ w.cell? ⟨(ad.add (i.toNat * 2)).block, (ad.add (i.toNat * 2)).off + 1, none⟩ = some (.slice A1 (rd_T95 xs i).f1.length c1) ∧ (rd_T95 xs i).f0.length ≤ c0 ∧ (Kd.int .i64).C w A0 (rd_T95 xs i).f0.length (rd_T95 xs i).f0 ∧ (rd_T95 xs i).f1.length ≤ c1 ∧ (Kd.int .i64).C w A1 (rd_T95 xs i).f1.length (rd_T95 xs i).f1 := by
  obtain ⟨ad, c, e, _, hK, hc0⟩ := Kd.C_get h z95 i h0 h1
  have hc : ∀ j u, c[j]? = some u → w.cell? (ad.add (i.toNat * 2 + j)) = some u := hc0
  obtain ⟨A0, c0, A1, c1, rfl, l0, g0, l1, g1⟩ := k95_open hK
  exact ⟨ad, A0, c0, A1, c1, e, hc 0 _ rfl, by rw [← add_field _ _ 1 (by omega)]; exact hc 1 _ rfl, l0, g0, l1, g1⟩
end Go.Proofs.YtbfedeedicnedaaGreat.PAll
end
section
namespace Go.Proofs.YtbfedeedicnedaaGreat.Sh
abbrev Nd := List Int × List Int
abbrev Hp := List Nd
def there (h : Hp) (n : Int) : Bool := decide (0 ≤ n) && decide (n < (h.length : Int))
def nd (h : Hp) (n : Int) : Nd := h.getD n.toNat ([], [])
def el (x : Int) : Bool := decide (0 ≤ x) && decide (x ≤ 1023)
def gi (l : List Int) (i : Nat) : Int := l.getD i 0
def risingFrom : Int → List Int → Bool
  | _, [] => true
  | b, x :: l => el x && (decide (b < x) && risingFrom x l)
def rising (l : List Int) : Bool := risingFrom (-1) l
def listArray (h : Hp) (root : Int) : Option (List Int) :=
  if there h root && (((nd h root).2.length == 0) && rising (nd h root).1) then some (nd h root).1 else none
def ones (w : Nat) (below : Nat) : List Int := ((List.range below).filter fun i => w.testBit i).map Int.ofNat
def page (h : Hp) (k : Int) (below : Nat) : Option (List Int) :=
  if there h k && (((nd h k).2.length == 0) && (((nd h k).1.length == 1) && (decide (1 ≤ gi (nd h k).1 0) && decide (gi (nd h k).1 0 < (2 ^ below : Nat))))) then some (ones (gi (nd h k).1 0).toNat below) else none
def listPagesF (h : Hp) : Nat → List Int → Option (List Int)
  | _, [] => some []
  | i, k :: ks => if k = -1 then listPagesF h (i + 1) ks else
    (page h k 32).bind fun l => (listPagesF h (i + 1) ks).map fun r => (l.map fun b => 32 * (i : Int) + b) ++ r
def listPages (h : Hp) (root : Int) : Option (List Int) :=
  if there h root && (((nd h root).1.length == 0) && ((nd h root).2.length == 32)) then listPagesF h 0 (nd h root).2 else none
def height (h : Hp) (root : Int) : Int := if root = -1 then 0 else gi (nd h root).1 1
def walkTree (h : Hp) : Nat → Int → Int → Int → Option (List Int)
  | 0, _, _, _ => none
  | g + 1, root, low, high =>
    if root = -1 then some []
    else if !(there h root && (((nd h root).1.length == 2) && ((nd h root).2.length == 2))) then none
    else if gi (nd h root).1 0 ≤ low ∨ high ≤ gi (nd h root).1 0 then none
    else (walkTree h g (gi (nd h root).2 0) low (gi (nd h root).1 0)).bind fun one =>
      (walkTree h g (gi (nd h root).2 1) (gi (nd h root).1 0) high).bind fun two =>
        if height h (gi (nd h root).2 0) ≤ height h (gi (nd h root).2 1) + 1 ∧ height h (gi (nd h root).2 1) ≤ height h (gi (nd h root).2 0) + 1 ∧ gi (nd h root).1 1 = 1 + max (height h (gi (nd h root).2 0)) (height h (gi (nd h root).2 1)) then some (one ++ gi (nd h root).1 0 :: two) else none
def listTree (h : Hp) (root : Int) : Option (List Int) := walkTree h 1026 root (-1) 1024
def walkTrie (h : Hp) : Nat → Int → Int → Option (List Int)
  | 0, root, begun => (page h root 4).map fun l => l.map fun d => 4 * begun + d
  | g + 1, root, begun =>
    if there h root && (((nd h root).1.length == 0) && ((nd h root).2.length == 4)) then
      ((List.range 4).foldl (fun acc d => acc.bind fun out => if gi (nd h root).2 d = -1 then some out else (walkTrie h g (gi (nd h root).2 d) (4 * begun + d)).map fun l => out ++ l) (some [])).bind fun out => if out.length = 0 then none else some out
    else none
def listTrie (h : Hp) (root : Int) : Option (List Int) := if root = -1 then some [] else walkTrie h 4 root 0
def home (x : Int) (c : Nat) : Int := Int.tmod (37 * x) c
def probe (t : List Int) (x : Int) : Nat → Nat → Option Nat
  | 0, _ => none
  | g + 1, at_ => if gi t at_ = x then some at_ else if gi t at_ = -1 then none else probe t x g ((at_ + 1) % t.length)
def pow2 (c : Nat) : Bool := [8, 16, 32, 64, 128, 256, 512, 1024, 2048].contains c
def listHash (h : Hp) (root : Int) : Option (List Int) :=
  if there h root && (((nd h root).2.length == 0) && pow2 (nd h root).1.length) then
    if (nd h root).1.all (fun x => decide (x = -1) || el x) then
      if 2 * ((nd h root).1.filter fun x => decide (x ≠ -1)).length ≤ (nd h root).1.length then
        if (List.range (nd h root).1.length).all (fun i => decide (gi (nd h root).1 i = -1) || decide (probe (nd h root).1 (gi (nd h root).1 i) (nd h root).1.length (home (gi (nd h root).1 i) (nd h root).1.length).toNat = some i)) then
          some (((nd h root).1.filter fun x => decide (x ≠ -1)).mergeSort)
        else none
      else none
    else none
  else none
def list (f : Int) (h : Hp) (root : Int) : Option (List Int) :=
  if f = 1 then listArray h root else if f = 2 then listPages h root else if f = 3 then listTree h root else if f = 4 then listTrie h root else if f = 5 then listHash h root else none
def listed (h : Hp) (f root count : Int) : List Int × Int :=
  if 3000 < h.length then ([], 3) else
  match list f h root with
  | none => ([], 2)
  | some l => if (l.length : Int) = count then (l, 0) else ([], 2)
end Go.Proofs.YtbfedeedicnedaaGreat.Sh
end
section
namespace Go.Proofs.YtbfedeedicnedaaGreat.Sh
inductive Tr (h : Hp) : Int → Int → Int → List Int → Int → Prop
  | leaf (lo hi : Int) : Tr h (-1) lo hi [] 0
  | node {r lo hi x a b : Int} {la lb : List Int} {ha hb : Int} (h0 : 0 ≤ r) (hn : h[r.toNat]? = some ([x, 1 + max ha hb], [a, b])) (hlo : lo < x) (hhi : x < hi)
      (ta : Tr h a lo x la ha) (tb : Tr h b x hi lb hb) (h1 : ha ≤ hb + 1) (h2 : hb ≤ ha + 1) : Tr h r lo hi (la ++ x :: lb) (1 + max ha hb)
theorem nd_of {h : Hp} {r : Int} {n : Nd} (hn : h[r.toNat]? = some n) : nd h r = n := by
  unfold nd
  rw [List.getD_eq_getElem?_getD, hn]
  rfl
theorem Tr.height {h : Hp} {r lo hi t : Int} {l : List Int} (T : Tr h r lo hi l t) : Sh.height h r = t := by
  cases T with
  | leaf => rfl
  | node h0 hn =>
    unfold Sh.height
    rw [if_neg (by omega), nd_of hn]
    rfl
theorem Tr.nonneg {h : Hp} {r lo hi t : Int} {l : List Int} (T : Tr h r lo hi l t) : 0 ≤ t := by
  induction T with
  | leaf => omega
  | node h0 hn hlo hhi ta tb h1 h2 ia ib => omega
theorem Tr.mono {h : Hp} (e : Hp) {r lo hi t : Int} {l : List Int} (T : Tr h r lo hi l t) : Tr (h ++ e) r lo hi l t := by
  induction T with
  | leaf lo hi => exact .leaf lo hi
  | node h0 hn hlo hhi ta tb h1 h2 ia ib =>
    refine .node h0 ?_ hlo hhi ia ib h1 h2
    rw [List.getElem?_append_left (List.getElem?_eq_some_iff.1 hn).1]
    exact hn
theorem Tr.widen {h : Hp} {r lo hi t : Int} {l : List Int} (T : Tr h r lo hi l t) : ∀ {lo' hi' : Int}, lo' ≤ lo → hi ≤ hi' → Tr h r lo' hi' l t := by
  induction T with
  | leaf lo hi => intro lo' hi' _ _; exact .leaf _ _
  | node h0 hn hlo hhi ta tb h1 h2 ia ib =>
    intro lo' hi' h3 h4
    exact .node h0 hn (by omega) (by omega) (ia h3 (Int.le_refl _)) (ib (Int.le_refl _) h4) h1 h2
theorem Tr.mem {h : Hp} {r lo hi t : Int} {l : List Int} (T : Tr h r lo hi l t) : ∀ y ∈ l, lo < y ∧ y < hi := by
  induction T with
  | leaf lo hi => intro y hy; simp at hy
  | node h0 hn hlo hhi ta tb h1 h2 ia ib =>
    intro y hy
    rcases List.mem_append.1 hy with hy | hy
    · have := ia y hy; omega
    · rcases List.mem_cons.1 hy with rfl | hy
      · omega
      · have := ib y hy; omega
theorem Tr.root {h : Hp} {r lo hi t : Int} {l : List Int} (T : Tr h r lo hi l t) : (r = -1 ∧ l = [] ∧ t = 0) ∨ (0 ≤ r ∧ r < (h.length : Int) ∧ l ≠ [] ∧ 1 ≤ t) := by
  cases T with
  | leaf => exact .inl ⟨rfl, rfl, rfl⟩
  | node h0 hn hlo hhi ta tb h1 h2 =>
    have := ta.nonneg
    have := tb.nonneg
    have hlt := (List.getElem?_eq_some_iff.1 hn).1
    exact .inr ⟨h0, by omega, by simp, by omega⟩
theorem Tr.parts {h : Hp} {r lo hi t : Int} {l : List Int} (T : Tr h r lo hi l t) (hr : r ≠ -1) : ∃ x a b la lb ha hb, nd h r = ([x, t], [a, b]) ∧ l = la ++ x :: lb ∧ t = 1 + max ha hb ∧ lo < x ∧ x < hi ∧ Tr h a lo x la ha ∧ Tr h b x hi lb hb ∧ ha ≤ hb + 1 ∧ hb ≤ ha + 1 := by
  cases T with
  | leaf => exact absurd rfl hr
  | node h0 hn hlo hhi ta tb h1 h2 => exact ⟨_, _, _, _, _, _, _, nd_of hn, rfl, rfl, hlo, hhi, ta, tb, h1, h2⟩
def node (h : Hp) (a x b : Int) : Hp × Int := (h ++ [([x, 1 + max (height h a) (height h b)], [a, b])], h.length)
def elt (h : Hp) (r : Int) : Int := gi (nd h r).1 0
def lft (h : Hp) (r : Int) : Int := gi (nd h r).2 0
def rgt (h : Hp) (r : Int) : Int := gi (nd h r).2 1
def balance (h : Hp) (left x right : Int) : Hp × Int :=
  if height h right + 1 < height h left then
    if height h (rgt h left) ≤ height h (lft h left) then
      node (node h (rgt h left) x right).1 (lft h left) (elt h left) (node h (rgt h left) x right).2
    else
      let c := node h (lft h left) (elt h left) (lft h (rgt h left))
      let d := node c.1 (rgt h (rgt h left)) x right
      node d.1 c.2 (elt h (rgt h left)) d.2
  else if height h left + 1 < height h right then
    if height h (lft h right) ≤ height h (rgt h right) then
      node (node h left x (lft h right)).1 (node h left x (lft h right)).2 (elt h right) (rgt h right)
    else
      let c := node h left x (lft h (lft h right))
      let d := node c.1 (rgt h (lft h right)) (elt h right) (rgt h right)
      node d.1 c.2 (elt h (lft h right)) d.2
  else node h left x right
def join : Nat → Hp → Int → Int → Int → Hp × Int
  | 0, h, _, _, _ => (h, -1)
  | g + 1, h, left, x, right =>
    if height h right + 1 < height h left then
      balance (join g h (rgt h left) x right).1 (lft h left) (elt h left) (join g h (rgt h left) x right).2
    else if height h left + 1 < height h right then
      balance (join g h left x (lft h right)).1 (join g h left x (lft h right)).2 (elt h right) (rgt h right)
    else node h left x right
def split : Nat → Hp → Int → Int → Hp × Int × Int
  | 0, h, _, _ => (h, -1, -1)
  | g + 1, h, root, x =>
    if root = -1 then (h, -1, -1)
    else if x = elt h root then (h, lft h root, rgt h root)
    else if x < elt h root then
      let s := split g h (lft h root) x
      let j := join 2000 s.1 s.2.2 (elt h root) (rgt h root)
      (j.1, s.2.1, j.2)
    else
      let s := split g h (rgt h root) x
      let j := join 2000 s.1 (lft h root) (elt h root) s.2.1
      (j.1, j.2, s.2.2)
def layT : Nat → Hp → List Int → Hp × Int
  | 0, h, _ => (h, -1)
  | g + 1, h, l =>
    if l.length = 0 then (h, -1)
    else
      let a := layT g h (l.take (l.length / 2))
      let b := layT g a.1 (l.drop (l.length / 2 + 1))
      node b.1 a.2 (gi l (l.length / 2)) b.2
def Grows (h : Hp) (r : Hp × Int) (lo hi : Int) (l : List Int) (t : Int) (most : Nat) : Prop := (∃ e, r.1 = h ++ e ∧ e.length ≤ most) ∧ Tr r.1 r.2 lo hi l t
theorem Grows.at {h : Hp} {r : Hp × Int} {lo hi : Int} {l : List Int} {t : Int} {m : Nat} (G : Grows h r lo hi l t m) {r' lo' hi' t' : Int} {l' : List Int} (T : Tr h r' lo' hi' l' t') : Tr r.1 r' lo' hi' l' t' := by
  obtain ⟨⟨e, he, _⟩, _⟩ := G
  rw [he]
  exact T.mono e
theorem node_ok {h : Hp} {a b x lo hi ha hb : Int} {la lb : List Int} (ta : Tr h a lo x la ha) (tb : Tr h b x hi lb hb) (hlo : lo < x) (hhi : x < hi) (h1 : ha ≤ hb + 1) (h2 : hb ≤ ha + 1) :
    Grows h (node h a x b) lo hi (la ++ x :: lb) (1 + max ha hb) 1 := by
  refine ⟨⟨_, rfl, by simp⟩, ?_⟩
  unfold node
  rw [ta.height, tb.height]
  refine .node (by simp) ?_ hlo hhi (ta.mono _) (tb.mono _) h1 h2
  simp
theorem Grows.trans {h : Hp} {r : Hp × Int} {lo hi : Int} {l : List Int} {t : Int} {m : Nat} (G : Grows h r lo hi l t m) {r2 : Hp × Int} {lo2 hi2 t2 : Int} {l2 : List Int} {m2 : Nat} (G2 : Grows r.1 r2 lo2 hi2 l2 t2 m2) : Grows h r2 lo2 hi2 l2 t2 (m + m2) := by
  obtain ⟨⟨e, he, hm⟩, _⟩ := G
  obtain ⟨⟨e2, he2, hm2⟩, T⟩ := G2
  refine ⟨⟨e ++ e2, by rw [he2, he, List.append_assoc], by rw [List.length_append]; omega⟩, T⟩
theorem Grows.le {h : Hp} {r : Hp × Int} {lo hi : Int} {l : List Int} {t : Int} {m m' : Nat} (G : Grows h r lo hi l t m) (hm : m ≤ m') : Grows h r lo hi l t m' := by
  obtain ⟨⟨e, he, h1⟩, T⟩ := G
  exact ⟨⟨e, he, by omega⟩, T⟩
theorem Grows.list {h : Hp} {r : Hp × Int} {lo hi : Int} {l l' : List Int} {t : Int} {m : Nat} (G : Grows h r lo hi l t m) (e : l = l') : Grows h r lo hi l' t m := e ▸ G
theorem open_at {h : Hp} {r lo hi t : Int} {l : List Int} (T : Tr h r lo hi l t) (ht : 1 ≤ t) : ∃ la lb ha hb, l = la ++ elt h r :: lb ∧ t = 1 + max ha hb ∧ lo < elt h r ∧ elt h r < hi ∧ Tr h (lft h r) lo (elt h r) la ha ∧ Tr h (rgt h r) (elt h r) hi lb hb ∧ ha ≤ hb + 1 ∧ hb ≤ ha + 1 := by
  have hr : r ≠ -1 := by
    rintro rfl
    rcases T.root with ⟨_, _, h0⟩ | ⟨h0, _⟩ <;> omega
  obtain ⟨x, a, b, la, lb, ha, hb, hn, hl, h1, h2, h3, ta, tb, h4, h5⟩ := T.parts hr
  have e1 : elt h r = x := by unfold elt; rw [hn]; rfl
  have e2 : lft h r = a := by unfold lft; rw [hn]; rfl
  have e3 : rgt h r = b := by unfold rgt; rw [hn]; rfl
  rw [e1, e2, e3]
  exact ⟨la, lb, ha, hb, hl, h1, h2, h3, ta, tb, h4, h5⟩
theorem balance_ok {h : Hp} {a b x lo hi ha hb : Int} {la lb : List Int} (ta : Tr h a lo x la ha) (tb : Tr h b x hi lb hb) (hlo : lo < x) (hhi : x < hi) (h1 : ha ≤ hb + 2) (h2 : hb ≤ ha + 2) :
    ∃ t, Grows h (balance h a x b) lo hi (la ++ x :: lb) t 3 ∧ max ha hb ≤ t ∧ t ≤ max ha hb + 1 ∧ (ha ≤ hb + 1 → hb ≤ ha + 1 → t = max ha hb + 1) := by
  have na := ta.nonneg
  have nb := tb.nonneg
  unfold balance
  rw [ta.height, tb.height]
  by_cases c1 : hb + 1 < ha
  · rw [if_pos c1]
    obtain ⟨l1, l2, t1, t2, rfl, e1, q1, q2, T1, T2, q3, q4⟩ := open_at ta (by omega)
    have n1 := T1.nonneg
    have n2 := T2.nonneg
    rw [T1.height, T2.height]
    by_cases c2 : t2 ≤ t1
    · rw [if_pos c2]
      have G1 := node_ok T2 tb (by omega) hhi (by omega) (by omega)
      have G2 := node_ok (G1.at T1) G1.2 (by omega) (by omega) (by omega) (by omega)
      have G := (G1.trans G2).le (show 1 + 1 ≤ 3 by omega)
      refine ⟨_, G.list (by simp), ?_, ?_, ?_⟩
      · omega
      · omega
      · omega
    · rw [if_neg c2]
      obtain ⟨l3, l4, t3, t4, rfl, e2, q5, q6, T3, T4, q7, q8⟩ := open_at T2 (by omega)
      have n3 := T3.nonneg
      have n4 := T4.nonneg
      have G1 := node_ok T1 T3 (by omega) (by omega) (by omega) (by omega)
      have G2 := node_ok (G1.at T4) (G1.at tb) (by omega) (by omega) (by omega) (by omega)
      have G3 := node_ok (G2.at G1.2) G2.2 (by omega) (by omega) (by omega) (by omega)
      have G := ((G1.trans G2).trans G3).le (show 1 + 1 + 1 ≤ 3 by omega)
      refine ⟨_, G.list (by simp), ?_, ?_, ?_⟩
      · omega
      · omega
      · omega
  · rw [if_neg c1]
    by_cases c3 : ha + 1 < hb
    · rw [if_pos c3]
      obtain ⟨l1, l2, t1, t2, rfl, e1, q1, q2, T1, T2, q3, q4⟩ := open_at tb (by omega)
      have n1 := T1.nonneg
      have n2 := T2.nonneg
      rw [T1.height, T2.height]
      by_cases c2 : t1 ≤ t2
      · rw [if_pos c2]
        have G1 := node_ok ta T1 (by omega) (by omega) (by omega) (by omega)
        have G2 := node_ok G1.2 (G1.at T2) (by omega) (by omega) (by omega) (by omega)
        have G := (G1.trans G2).le (show 1 + 1 ≤ 3 by omega)
        refine ⟨_, G.list (by simp), ?_, ?_, ?_⟩
        · omega
        · omega
        · omega
      · rw [if_neg c2]
        obtain ⟨l3, l4, t3, t4, rfl, e2, q5, q6, T3, T4, q7, q8⟩ := open_at T1 (by omega)
        have n3 := T3.nonneg
        have n4 := T4.nonneg
        have G1 := node_ok ta T3 (by omega) (by omega) (by omega) (by omega)
        have G2 := node_ok (G1.at T4) (G1.at T2) (by omega) (by omega) (by omega) (by omega)
        have G3 := node_ok (G2.at G1.2) G2.2 (by omega) (by omega) (by omega) (by omega)
        have G := ((G1.trans G2).trans G3).le (show 1 + 1 + 1 ≤ 3 by omega)
        refine ⟨_, G.list (by simp), ?_, ?_, ?_⟩
        · omega
        · omega
        · omega
    · rw [if_neg c3]
      refine ⟨_, (node_ok ta tb hlo hhi (by omega) (by omega)).le (by omega), by omega, by omega, fun _ _ => by omega⟩
end Go.Proofs.YtbfedeedicnedaaGreat.Sh
end
section
namespace Go.Proofs.YtbfedeedicnedaaGreat.Sh
theorem join_ok : ∀ (g : Nat) {h : Hp} {a b x lo hi ha hb : Int} {la lb : List Int}, Tr h a lo x la ha → Tr h b x hi lb hb → lo < x → x < hi → (ha - hb).natAbs < g →
    ∃ t, Grows h (join g h a x b) lo hi (la ++ x :: lb) t (3 * ((ha - hb).natAbs - 1) + 1) ∧ max ha hb ≤ t ∧ t ≤ max ha hb + 1 := by
  intro g
  induction g with
  | zero => intro h a b x lo hi ha hb la lb _ _ _ _ h; omega
  | succ g ih =>
    intro h a b x lo hi ha hb la lb ta tb hlo hhi hg
    have na := ta.nonneg
    have nb := tb.nonneg
    unfold join
    rw [ta.height, tb.height]
    by_cases c1 : hb + 1 < ha
    · rw [if_pos c1]
      obtain ⟨l1, l2, t1, t2, rfl, e1, q1, q2, T1, T2, q3, q4⟩ := open_at ta (by omega)
      have n1 := T1.nonneg
      have n2 := T2.nonneg
      obtain ⟨t, G, g1, g2⟩ := ih T2 tb q2 hhi (by omega)
      obtain ⟨t', G', g3, g4, g5⟩ := balance_ok (G.at T1) G.2 q1 (by omega) (by omega) (by omega)
      refine ⟨t', ((G.trans G').list (by simp)).le (by omega), ?_, ?_⟩
      · by_cases c : t1 ≤ t + 1 ∧ t ≤ t1 + 1
        · have := g5 c.1 c.2; omega
        · omega
      · by_cases c : t1 ≤ t + 1 ∧ t ≤ t1 + 1
        · have := g5 c.1 c.2; omega
        · omega
    · rw [if_neg c1]
      by_cases c2 : ha + 1 < hb
      · rw [if_pos c2]
        obtain ⟨l1, l2, t1, t2, rfl, e1, q1, q2, T1, T2, q3, q4⟩ := open_at tb (by omega)
        have n1 := T1.nonneg
        have n2 := T2.nonneg
        obtain ⟨t, G, g1, g2⟩ := ih ta T1 hlo q1 (by omega)
        obtain ⟨t', G', g3, g4, g5⟩ := balance_ok G.2 (G.at T2) (by omega) q2 (by omega) (by omega)
        refine ⟨t', ((G.trans G').list (by simp)).le (by omega), ?_, ?_⟩
        · by_cases c : t ≤ t2 + 1 ∧ t2 ≤ t + 1
          · have := g5 c.1 c.2; omega
          · omega
        · by_cases c : t ≤ t2 + 1 ∧ t2 ≤ t + 1
          · have := g5 c.1 c.2; omega
          · omega
      · rw [if_neg c2]
        exact ⟨_, (node_ok ta tb hlo hhi (by omega) (by omega)).le (by omega), by omega, by omega⟩
theorem Tr.high {h : Hp} {r lo hi t : Int} {l : List Int} (T : Tr h r lo hi l t) : t ≤ l.length := by
  induction T with
  | leaf => simp
  | node h0 hn hlo hhi ta tb h1 h2 ia ib =>
    rw [List.length_append, List.length_cons]
    omega
theorem Tr.count {h : Hp} {r lo hi t : Int} {l : List Int} (T : Tr h r lo hi l t) : lo < hi → (l.length : Int) ≤ hi - lo - 1 := by
  induction T with
  | leaf lo hi => intro h; simp; omega
  | node h0 hn hlo hhi ta tb h1 h2 ia ib =>
    intro h
    have := ia (by omega)
    have := ib (by omega)
    rw [List.length_append, List.length_cons]
    omega
theorem filter_lt_all {l : List Int} {x : Int} (h : ∀ y ∈ l, y < x) : (l.filter fun y => decide (y < x)) = l ∧ (l.filter fun y => decide (x < y)) = [] := by
  refine ⟨?_, ?_⟩
  · rw [List.filter_eq_self]
    intro y hy
    simpa using h y hy
  · rw [List.filter_eq_nil_iff]
    intro y hy
    have := h y hy
    simp; omega
theorem filter_gt_all {l : List Int} {x : Int} (h : ∀ y ∈ l, x < y) : (l.filter fun y => decide (y < x)) = [] ∧ (l.filter fun y => decide (x < y)) = l := by
  refine ⟨?_, ?_⟩
  · rw [List.filter_eq_nil_iff]
    intro y hy
    have := h y hy
    simp; omega
  · rw [List.filter_eq_self]
    intro y hy
    simpa using h y hy
def below (l : List Int) (x : Int) : List Int := l.filter fun y => decide (y < x)
def above (l : List Int) (x : Int) : List Int := l.filter fun y => decide (x < y)
theorem parts_lt {la lb : List Int} {x y : Int} (hx : x < y) (hb : ∀ z ∈ lb, y < z) : below (la ++ y :: lb) x = below la x ∧ above (la ++ y :: lb) x = above la x ++ y :: lb := by
  have h1 := filter_gt_all (l := y :: lb) (x := x) (by
    intro z hz
    rcases List.mem_cons.1 hz with rfl | hz
    · exact hx
    · have := hb z hz; omega)
  unfold below above
  rw [List.filter_append, List.filter_append, h1.1, h1.2, List.append_nil]
  exact ⟨rfl, rfl⟩
theorem parts_gt {la lb : List Int} {x y : Int} (hx : y < x) (ha : ∀ z ∈ la, z < y) : below (la ++ y :: lb) x = la ++ y :: below lb x ∧ above (la ++ y :: lb) x = above lb x := by
  have h1 := filter_lt_all (l := la) (x := x) (by
    intro z hz
    have := ha z hz; omega)
  unfold below above
  rw [List.filter_append, List.filter_append, h1.1, h1.2, List.nil_append, List.filter_cons, List.filter_cons]
  rw [if_pos (by simpa using hx), if_neg (by simp; omega)]
  exact ⟨rfl, rfl⟩
theorem parts_eq {la lb : List Int} {y : Int} (ha : ∀ z ∈ la, z < y) (hb : ∀ z ∈ lb, y < z) : below (la ++ y :: lb) y = la ∧ above (la ++ y :: lb) y = lb := by
  have h1 := filter_lt_all ha
  have h2 := filter_gt_all hb
  unfold below above
  rw [List.filter_append, List.filter_append, h1.1, h1.2, List.filter_cons, List.filter_cons, if_neg (by simp), if_neg (by simp), h2.1, h2.2]
  simp
theorem split_ok : ∀ (g : Nat) {h : Hp} {r lo hi t : Int} {l : List Int} (x : Int), Tr h r lo hi l t → t < g → t ≤ 1500 →
    ∃ e t1 t2, (split g h r x).1 = h ++ e ∧ Tr (split g h r x).1 (split g h r x).2.1 lo hi (below l x) t1 ∧ Tr (split g h r x).1 (split g h r x).2.2 lo hi (above l x) t2 ∧ t1 ≤ t ∧ t2 ≤ t ∧ (e.length : Int) ≤ 3 * t1 + 3 * t2 + 4 * t := by
  intro g
  induction g with
  | zero => intro h r lo hi t l x T ht _; have := T.nonneg; omega
  | succ g ih =>
    intro h r lo hi t l x T ht ht2
    unfold split
    by_cases hr : r = -1
    · rw [if_pos hr]
      rcases T.root with ⟨_, rfl, rfl⟩ | ⟨h0, _⟩
      · exact ⟨[], 0, 0, by simp, .leaf _ _, .leaf _ _, by omega, by omega, by simp⟩
      · omega
    · rw [if_neg hr]
      have ht1 : 1 ≤ t := by
        rcases T.root with ⟨h0, _⟩ | ⟨_, _, _, h1⟩
        · exact absurd h0 hr
        · exact h1
      obtain ⟨la, lb, ha, hb, rfl, e1, q1, q2, Ta, Tb, q3, q4⟩ := open_at T ht1
      have na := Ta.nonneg
      have nb := Tb.nonneg
      by_cases c1 : x = elt h r
      · rw [if_pos c1]
        have hp := parts_eq (fun z hz => (Ta.mem z hz).2) (fun z hz => (Tb.mem z hz).1)
        rw [c1, hp.1, hp.2]
        exact ⟨[], ha, hb, by simp, Ta.widen (Int.le_refl _) (by omega), Tb.widen (by omega) (Int.le_refl _), by omega, by omega, by simp; omega⟩
      · rw [if_neg c1]
        by_cases c2 : x < elt h r
        · rw [if_pos c2]
          have hp := parts_lt (la := la) c2 (fun z hz => (Tb.mem z hz).1)
          rw [hp.1, hp.2]
          obtain ⟨e, t1, t2, he, T1, T2, g1, g2, g3⟩ := ih x Ta (by omega) (by omega)
          have n1 := T1.nonneg
          have n2 := T2.nonneg
          have Tb' : Tr (split g h (lft h r) x).1 (rgt h r) (elt h r) hi lb hb := by rw [he]; exact Tb.mono e
          obtain ⟨t', ⟨⟨e2, he2, hm2⟩, TJ⟩, g4, g5⟩ := join_ok 2000 T2 Tb' q1 q2 (by omega)
          refine ⟨e ++ e2, t1, t', ?_, ?_, TJ, by omega, by omega, ?_⟩
          · show (join 2000 _ _ _ _).1 = _
            rw [he2, he, List.append_assoc]
          · show Tr (join 2000 _ _ _ _).1 _ _ _ _ _
            rw [he2]
            exact (T1.mono e2).widen (Int.le_refl _) (by omega)
          · rw [List.length_append]
            omega
        · rw [if_neg c2]
          have hp := parts_gt (lb := lb) (show elt h r < x by omega) (fun z hz => (Ta.mem z hz).2)
          rw [hp.1, hp.2]
          obtain ⟨e, t1, t2, he, T1, T2, g1, g2, g3⟩ := ih x Tb (by omega) (by omega)
          have n1 := T1.nonneg
          have n2 := T2.nonneg
          have Ta' : Tr (split g h (rgt h r) x).1 (lft h r) lo (elt h r) la ha := by rw [he]; exact Ta.mono e
          obtain ⟨t', ⟨⟨e2, he2, hm2⟩, TJ⟩, g4, g5⟩ := join_ok 2000 Ta' T1 q1 q2 (by omega)
          refine ⟨e ++ e2, t', t2, ?_, TJ, ?_, by omega, by omega, ?_⟩
          · show (join 2000 _ _ _ _).1 = _
            rw [he2, he, List.append_assoc]
          · show Tr (join 2000 _ _ _ _).1 _ _ _ _ _
            rw [he2]
            exact (T2.mono e2).widen (by omega) (Int.le_refl _)
          · rw [List.length_append]
            omega
end Go.Proofs.YtbfedeedicnedaaGreat.Sh
end
section
namespace Go.Proofs.YtbfedeedicnedaaGreat.Sh
theorem two_of {l : List Int} (h : l.length = 2) : l = [gi l 0, gi l 1] := by
  match l, h with
  | [a, b], _ => rfl
theorem there_iff {h : Hp} {n : Int} : there h n = true ↔ 0 ≤ n ∧ n < (h.length : Int) := by
  unfold there
  rw [Bool.and_eq_true, decide_eq_true_iff, decide_eq_true_iff]
theorem nd_there {h : Hp} {n : Int} (ht : there h n = true) : h[n.toNat]? = some (nd h n) := by
  obtain ⟨h0, h1⟩ := there_iff.1 ht
  unfold nd
  rw [List.getD_eq_getElem?_getD, List.getElem?_eq_getElem (by omega)]
  rfl
theorem walk_tr : ∀ (g : Nat) {h : Hp} {root low high : Int} {l : List Int}, walkTree h g root low high = some l → ∃ t, Tr h root low high l t
  | 0, _, _, _, _, _, h => by cases h
  | g + 1, h, root, low, high, l, hw => by
    unfold walkTree at hw
    by_cases hr : root = -1
    · rw [if_pos hr] at hw
      cases hw
      subst hr
      exact ⟨0, .leaf _ _⟩
    · rw [if_neg hr] at hw
      by_cases c1 : (there h root && (((nd h root).1.length == 2) && ((nd h root).2.length == 2))) = true
      · rw [c1] at hw
        simp only [Bool.and_eq_true, beq_iff_eq] at c1
        obtain ⟨ht, hn, hk⟩ := c1
        rw [if_neg (by simp)] at hw
        by_cases c2 : gi (nd h root).1 0 ≤ low ∨ high ≤ gi (nd h root).1 0
        · rw [if_pos c2] at hw
          cases hw
        · rw [if_neg c2] at hw
          obtain ⟨one, h1, hw⟩ := Option.bind_eq_some_iff.1 hw
          obtain ⟨two, h2, hw⟩ := Option.bind_eq_some_iff.1 hw
          obtain ⟨ha, Ta⟩ := walk_tr g h1
          obtain ⟨hb, Tb⟩ := walk_tr g h2
          rw [Ta.height, Tb.height] at hw
          split at hw
          · rename_i c3
            cases hw
            have hnd := nd_there ht
            have e : nd h root = ([gi (nd h root).1 0, 1 + max ha hb], [gi (nd h root).2 0, gi (nd h root).2 1]) := by
              apply Prod.ext
              · rw [← c3.2.2]
                exact two_of hn
              · exact two_of hk
            have h0 := (there_iff.1 ht).1
            exact ⟨_, .node h0 (by rw [hnd]; exact congrArg some e) (by omega) (by omega) Ta Tb c3.1 c3.2.1⟩
          · cases hw
      · rw [if_pos (by simp only [Bool.not_eq_true] at c1; rw [c1]; rfl)] at hw
        cases hw
theorem tr_walk {h : Hp} {root low high t : Int} {l : List Int} (T : Tr h root low high l t) : ∀ g : Nat, low < high → high - low ≤ g → walkTree h g root low high = some l := by
  induction T with
  | leaf lo hi =>
    intro g h1 h2
    cases g with
    | zero => omega
    | succ g =>
      unfold walkTree
      rw [if_pos rfl]
  | @node r lo hi x a b la lb ha hb h0 hn hlo hhi ta tb h1 h2 ia ib =>
    intro g hg hg2
    cases g with
    | zero => omega
    | succ g =>
      have hnd := nd_of hn
      have hlt := (List.getElem?_eq_some_iff.1 hn).1
      have ht : there h r = true := there_iff.2 ⟨h0, by omega⟩
      have e0 : gi ([x, 1 + max ha hb] : List Int) 0 = x := rfl
      have e1 : gi ([x, 1 + max ha hb] : List Int) 1 = 1 + max ha hb := rfl
      have e2 : gi ([a, b] : List Int) 0 = a := rfl
      have e3 : gi ([a, b] : List Int) 1 = b := rfl
      unfold walkTree
      rw [if_neg (by omega), hnd]
      simp only [e0, e1, e2, e3]
      rw [if_neg (by rw [ht]; simp), if_neg (by omega), ia g hlo (by omega)]
      simp only [Option.bind_some]
      rw [ib g hhi (by omega)]
      simp only [Option.bind_some]
      rw [ta.height, tb.height, if_pos ⟨h1, h2, rfl⟩]
theorem listTree_iff {h : Hp} {root : Int} {l : List Int} : listTree h root = some l ↔ ∃ t, Tr h root (-1) 1024 l t :=
  ⟨fun hl => walk_tr _ hl, fun ⟨t, T⟩ => tr_walk T 1026 (by omega) (by omega)⟩
def least : Nat → Nat
  | 0 => 0
  | 1 => 1
  | n + 2 => least (n + 1) + least n + 1
theorem least_up (n : Nat) : least n ≤ least (n + 1) := by
  cases n with
  | zero => decide
  | succ n =>
    show least (n + 1) ≤ least (n + 1) + least n + 1
    omega
theorem Tr.least {h : Hp} {r lo hi t : Int} {l : List Int} (T : Tr h r lo hi l t) : Sh.least t.toNat ≤ l.length := by
  induction T with
  | leaf => exact Nat.le_refl _
  | @node r lo hi x a b la lb ha hb h0 hn hlo hhi ta tb h1 h2 ia ib =>
    have na := ta.nonneg
    have nb := tb.nonneg
    rw [List.length_append, List.length_cons]
    rcases Int.lt_or_le ha hb with hlt | hle
    · obtain ⟨n, hn'⟩ : ∃ n : Nat, ha = n := ⟨ha.toNat, by omega⟩
      have hb' : hb = ((n + 1 : Nat) : Int) := by omega
      subst hn'
      subst hb'
      have e : (1 + max (n : Int) ((n + 1 : Nat) : Int)).toNat = n + 2 := by omega
      rw [e]
      have ia' : Sh.least n ≤ la.length := ia
      have ib' : Sh.least (n + 1) ≤ lb.length := ib
      show Sh.least (n + 1) + Sh.least n + 1 ≤ _
      omega
    · rcases Int.lt_or_le hb ha with hlt2 | hle2
      · obtain ⟨n, hn'⟩ : ∃ n : Nat, hb = n := ⟨hb.toNat, by omega⟩
        have ha' : ha = ((n + 1 : Nat) : Int) := by omega
        subst hn'
        subst ha'
        have e : (1 + max ((n + 1 : Nat) : Int) (n : Int)).toNat = n + 2 := by omega
        rw [e]
        have ia' : Sh.least (n + 1) ≤ la.length := ia
        have ib' : Sh.least n ≤ lb.length := ib
        show Sh.least (n + 1) + Sh.least n + 1 ≤ _
        omega
      · obtain ⟨n, hn'⟩ : ∃ n : Nat, hb = n := ⟨hb.toNat, by omega⟩
        have ha' : ha = (n : Int) := by omega
        subst hn'
        subst ha'
        have e : (1 + max (n : Int) (n : Int)).toNat = n + 1 := by omega
        rw [e]
        have ia' : Sh.least n ≤ la.length := ia
        have ib' : Sh.least n ≤ lb.length := ib
        cases n with
        | zero => show 1 ≤ _; omega
        | succ n =>
          show Sh.least (n + 1) + Sh.least n + 1 ≤ _
          have := least_up n
          omega
theorem least_mono {m n : Nat} (h : m ≤ n) : least m ≤ least n := by
  induction n with
  | zero => obtain rfl : m = 0 := by omega
            exact Nat.le_refl _
  | succ n ih =>
    by_cases hm : m = n + 1
    · rw [hm]; exact Nat.le_refl _
    · exact Nat.le_trans (ih (by omega)) (least_up n)
theorem Tr.low {h : Hp} {r t : Int} {l : List Int} (T : Tr h r (-1) 1024 l t) : t ≤ 14 := by
  have h1 := T.least
  have h2 := T.count (by omega)
  refine Int.not_lt.1 (fun hlt => ?_)
  have h3 := least_mono (show 15 ≤ t.toNat by omega)
  have h4 : Sh.least 15 = 1596 := by decide
  omega
def high : Nat → Nat → Int
  | 0, _ => 0
  | g + 1, n => if n = 0 then 0 else 1 + max (high g (n / 2)) (high g (n - (n / 2 + 1)))
theorem high_nonneg : ∀ (g n : Nat), 0 ≤ high g n
  | 0, _ => Int.le_refl _
  | g + 1, n => by
    unfold high
    split
    · omega
    · have := high_nonneg g (n / 2)
      omega
theorem high_step : ∀ (g n : Nat), n + 1 ≤ g → high g n ≤ high g (n + 1) ∧ high g (n + 1) ≤ high g n + 1
  | 0, n, h => by omega
  | g + 1, n, h => by
    by_cases h0 : n = 0
    · subst h0
      unfold high
      rw [if_pos rfl, if_neg (by omega)]
      have e1 : high g ((0 + 1) / 2) = 0 := by cases g <;> rfl
      have e2 : high g (0 + 1 - ((0 + 1) / 2 + 1)) = 0 := by cases g <;> rfl
      have e3 : 0 + 1 - ((0 + 1) / 2 + 1) = 0 := rfl
      have e4 : (0 + 1) / 2 = 0 := rfl
      simp only [e3, e4] at e1 e2 ⊢
      try rw [e1]
      omega
    · unfold high
      rw [if_neg h0, if_neg (by omega)]
      by_cases hp : n % 2 = 0
      · 
        have e1 : (n + 1) / 2 = n / 2 := by omega
        have e2 : n + 1 - ((n + 1) / 2 + 1) = (n - (n / 2 + 1)) + 1 := by omega
        rw [e2, e1]
        have := high_step g (n - (n / 2 + 1)) (by omega)
        have h2 := high_step g (n - (n / 2 + 1)) (by omega)
        omega
      · have e1 : (n + 1) / 2 = n / 2 + 1 := by omega
        have e2 : n + 1 - (n / 2 + 1 + 1) = n - (n / 2 + 1) := by omega
        rw [e1, e2]
        have := high_step g (n / 2) (by omega)
        omega
theorem take_drop_at {l : List Int} {k : Nat} (h : k < l.length) : l = l.take k ++ gi l k :: l.drop (k + 1) := by
  have h1 := List.take_append_drop k l
  rw [List.drop_eq_getElem_cons h] at h1
  have e : gi l k = l[k] := by unfold gi; rw [List.getD_eq_getElem?_getD, List.getElem?_eq_getElem h]; rfl
  rw [e]
  exact h1.symm
theorem layT_ok : ∀ (g : Nat) (h : Hp) (lo hi : Int) (l : List Int), l.length ≤ g → l.Pairwise (· < ·) → (∀ y ∈ l, lo < y ∧ y < hi) →
    Grows h (layT (g + 1) h l) lo hi l (high g l.length) l.length := by
  intro g
  induction g with
  | zero =>
    intro h lo hi l hl hp hb
    obtain rfl : l = [] := List.length_eq_zero_iff.1 (by omega)
    exact ⟨⟨[], by simp [layT], by simp⟩, .leaf _ _⟩
  | succ g ih =>
    intro h lo hi l hl hp hb
    by_cases h0 : l.length = 0
    · obtain rfl : l = [] := List.length_eq_zero_iff.1 h0
      exact ⟨⟨[], by simp [layT], by simp⟩, .leaf _ _⟩
    · have hk : l.length / 2 < l.length := by omega
      have hs := take_drop_at hk
      obtain ⟨x, hx⟩ : ∃ x, x = gi l (l.length / 2) := ⟨_, rfl⟩
      rw [← hx] at hs
      have hp2 := hp
      rw [hs, List.pairwise_append] at hp2
      obtain ⟨p1, p2, p3⟩ := hp2
      rw [List.pairwise_cons] at p2
      have hxm : x ∈ l := by rw [hs]; simp
      have hxb := hb x hxm
      have h1 := ih h lo x (l.take (l.length / 2)) (by rw [List.length_take]; omega) p1 (fun y hy => ⟨(hb y (List.mem_of_mem_take hy)).1, p3 y hy x (by simp)⟩)
      have h2 := ih (layT (g + 1) h (l.take (l.length / 2))).1 x hi (l.drop (l.length / 2 + 1)) (by rw [List.length_drop]; omega) p2.2 (fun y hy => ⟨p2.1 y hy, (hb y (List.mem_of_mem_drop hy)).2⟩)
      have hl1 : (l.take (l.length / 2)).length = l.length / 2 := by rw [List.length_take]; omega
      have hl2 : (l.drop (l.length / 2 + 1)).length = l.length - (l.length / 2 + 1) := by rw [List.length_drop]
      rw [hl1] at h1
      rw [hl2] at h2
      have hbal : high g (l.length - (l.length / 2 + 1)) ≤ high g (l.length / 2) ∧ high g (l.length / 2) ≤ high g (l.length - (l.length / 2 + 1)) + 1 := by
        by_cases hpar : l.length % 2 = 1
        · have e : l.length - (l.length / 2 + 1) = l.length / 2 := by omega
          rw [e]
          omega
        · have e : l.length / 2 = (l.length - (l.length / 2 + 1)) + 1 := by omega
          have hst := high_step g (l.length - (l.length / 2 + 1)) (by omega)
          rw [← e] at hst
          exact hst
      have h3 := node_ok (h2.at h1.2) h2.2 hxb.1 hxb.2 (by omega) (by omega)
      have hun : layT (g + 1 + 1) h l = node (layT (g + 1) (layT (g + 1) h (l.take (l.length / 2))).1 (l.drop (l.length / 2 + 1))).1 (layT (g + 1) h (l.take (l.length / 2))).2 x (layT (g + 1) (layT (g + 1) h (l.take (l.length / 2))).1 (l.drop (l.length / 2 + 1))).2 := by
        rw [hx]
        conv => lhs; unfold layT
        rw [if_neg h0]
      rw [hun]
      have hh : high (g + 1) l.length = 1 + max (high g (l.length / 2)) (high g (l.length - (l.length / 2 + 1))) := by
        conv => lhs; unfold high
        rw [if_neg h0]
      rw [hh]
      exact (((h1.trans h2).trans h3).list hs.symm).le (by omega)
end Go.Proofs.YtbfedeedicnedaaGreat.Sh
end
