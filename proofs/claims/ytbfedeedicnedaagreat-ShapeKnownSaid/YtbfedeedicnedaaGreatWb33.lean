/-
  Texts of this claim: ShBO, ShBP, ShRg.
-/
import Derived.Test.YtbfedeedicnedaaGreatWb16
import Derived.Test.YtbfedeedicnedaaGreatWb32
import Derived.Outline
import Derived.Deep.Heap
import Derived.Deep.DeepCutAuto

section
set_option linter.unusedVariables false
set_option linter.unusedSimpArgs false
namespace Go.Proofs.YtbfedeedicnedaaGreat
open Go.RowKit
open Go.Proofs.YtbfedeedicnedaaGreatW.PrintWords
theorem elems_tree {K : Sh.Hp} {r t : Int} {l : List Int} (T : Sh.Tr K r (-1) 1024 l t) : Sh.elems K 3 r l.length = some l := by
  have e : Sh.list 3 K r = Sh.listTree K r := by unfold Sh.list; simp
  unfold Sh.elems
  rw [e, Sh.listTree_iff.2 ⟨t, T⟩]
  exact if_pos rfl
theorem listed_tree {H : Sh.Hp} {r n : Int} {l : List Int} (h : Sh.listed H 3 r n = (l, 0)) : ∃ t, Sh.Tr H r (-1) 1024 l t := by
  have := listed_some h
  have e : Sh.list 3 H r = Sh.listTree H r := by unfold Sh.list; simp
  rw [e] at this
  exact Sh.listTree_iff.1 this
def SplitOk (H : Sh.Hp) (a b : List Int) (is : Bool) (m : Nat) (w' : World) (e : Ending) : Prop := ∃ A c K r1 r2, e = .returned (.tuple #[.slice A (K : Sh.Hp).length c, shV 3 r1 a.length, shV 3 r2 b.length, .bool is, .int .i64 0]) ∧ Kd.R kSN 95 w' 0 (fun _ => True) (.slice A K.length c) (sn K) ∧ Sh.Has H K 3 r1 a m ∧ Sh.Has H K 3 r2 b m
theorem more_len {l : List Int} {x : Int} (hl : l.Pairwise (· < ·)) : Sh.more l x = (Sh.above l x).length := by
  unfold Sh.more Sh.above
  rw [← List.countP_eq_length_filter]
  induction l with
  | nil => rfl
  | cons y l ih =>
    rw [List.pairwise_cons] at hl
    have ih' := ih hl.2
    rw [List.countP_cons, List.countP_cons, List.contains_cons, List.length_cons]
    rcases Int.lt_trichotomy y x with h | h | h
    · have h1 : decide (y < x) = true := decide_eq_true h
      have h2 : decide (x < y) = false := decide_eq_false (by omega)
      have h3 : (x == y) = false := beq_eq_false_iff_ne.mpr (by omega)
      simp only [h1, h2, h3, if_true, Bool.false_or, Bool.false_eq_true, if_false]
      omega
    · subst h
      have hn : l.contains y = false := by
        rw [← Bool.not_eq_true, List.contains_iff_mem]
        intro hm
        have := hl.1 y hm
        omega
      have h1 : decide (y < y) = false := decide_eq_false (by omega)
      rw [hn] at ih'
      simp only [h1, hn, BEq.rfl, Bool.true_or, if_true, Bool.false_eq_true, if_false] at ih' ⊢
      omega
    · have hn : l.contains x = false := by
        rw [← Bool.not_eq_true, List.contains_iff_mem]
        intro hm
        have := hl.1 x hm
        omega
      have h1 : decide (y < x) = false := decide_eq_false (by omega)
      have h2 : decide (x < y) = true := decide_eq_true h
      have h3 : (x == y) = false := beq_eq_false_iff_ne.mpr (by omega)
      rw [hn] at ih'
      simp only [h1, h2, h3, hn, if_true, Bool.or_self, Bool.false_eq_true, if_false] at ih' ⊢
      omega
theorem split_is {H : Sh.Hp} {root n x t : Int} {A : Option Addr} {c : Nat} {w : World} {l : List Int} (hC : Nodes w A H) (hLa : ListsF H 3) (ha : Sh.sought H 3 root n x = (l, 0)) (Tt : Sh.Tr H root (-1) 1024 l t) (hlH : H.length ≤ 100000) (hbig : ∀ p ∈ H, p.1.length ≤ 1000000 ∧ p.2.length ≤ 1000000) :
    Calls Tryz.prog 44 #[.slice A H.length c, shV 3 root n, .int .i64 x] w fun e w' => SplitOk H (Sh.below l x) (Sh.above l x) (l.contains x) (10 * t.toNat) w' e ∧ Below w.heap.size w w' := by
  have ht := Tt.low
  have ht0 := Tt.nonneg
  have hE : l.length ≤ 1024 := Sh.els_len (Sh.listTree_els (Sh.listTree_iff.2 ⟨t, Tt⟩))
  refine (Split_calls hC hLa ha Tt (by omega) (by omega) hlH hbig).mono ?_
  rintro e w' ⟨⟨v, rfl, hr⟩, hB⟩
  obtain ⟨A2, c2, rfl⟩ := Kd.R_slice hr
  rw [sn_len] at hr ⊢
  obtain ⟨E, t1, t2, hK, T1, T2, h1, h2, h3⟩ := Sh.split_ok 2000 x Tt (by omega) (by omega)
  refine ⟨⟨A2, c2, _, _, _, ?_, Kd.R_lower hr (Nat.zero_le _), ⟨⟨E, hK, by omega⟩, elems_tree T1⟩, ⟨⟨E, hK, by omega⟩, elems_tree T2⟩⟩, hB⟩
  rw [more_len Tt.rise, List.countP_eq_length_filter]
  rfl
theorem join_is {H : Sh.Hp} {ra na rb nb x ta tb : Int} {A : Option Addr} {c : Nat} {w : World} {l m : List Int} (hC : Nodes w A H) (hLa : ListsF H 3) (ha : Sh.listed H 3 ra na = (l, 0)) (hb : Sh.sought H 3 rb nb x = (m, 0)) (Ta : Sh.Tr H ra (-1) 1024 l ta) (Tb : Sh.Tr H rb (-1) 1024 m tb) (hbt : Sh.between l m x) (hx0 : 0 ≤ x) (hx1 : x ≤ 1023) (hlH : H.length ≤ 100000) (hbig : ∀ p ∈ H, p.1.length ≤ 1000000 ∧ p.2.length ≤ 1000000) :
    Calls Tryz.prog 47 #[.slice A H.length c, shV 3 ra na, .int .i64 x, shV 3 rb nb] w fun e w' => MadeOk H 3 (l ++ x :: m) (3 * ((ta - tb).natAbs - 1) + 1) w' e ∧ Below w.heap.size w w' := by
  have hta := Ta.low
  have htb := Tb.low
  have ha0 := Ta.nonneg
  have hb0 := Tb.nonneg
  have hE1 : l.length ≤ 1024 := Sh.els_len (Sh.listTree_els (Sh.listTree_iff.2 ⟨ta, Ta⟩))
  have hE2 : m.length ≤ 1024 := Sh.els_len (Sh.listTree_els (Sh.listTree_iff.2 ⟨tb, Tb⟩))
  refine (Join_calls hC hLa ha hb Ta Tb (by omega) (by omega) hbt hx0 hx1 (by omega) (by omega) hlH hbig).mono ?_
  rintro e w' ⟨h, hB⟩
  obtain ⟨t, ⟨⟨E, hK, hEl⟩, T⟩, -, -⟩ := Sh.join_ok 2000 (Ta.cut_hi hbt.1) (Tb.cut_lo hbt.2) (show (-1 : Int) < x by omega) (show x < 1024 by omega) (by omega)
  refine ⟨h.made ?_ ⟨⟨E, hK, hEl⟩, elems_tree T⟩, hB⟩
  rw [List.length_append, List.length_cons]
  omega
theorem H0_t : ∃ t, Sh.Tr Sh.H0 3 (-1) 1024 [5, 9, 12] t ∧ 0 ≤ t ∧ t ≤ 3 := by
  obtain ⟨t, T⟩ := listed_tree H0_T
  exact ⟨t, T, T.nonneg, T.high⟩
theorem H0_n : ∃ t, Sh.Tr Sh.H0 (-1) (-1) 1024 [] t ∧ t = 0 := ⟨0, .leaf _ _, rfl⟩
theorem SplitOk.le {H : Sh.Hp} {a b : List Int} {is : Bool} {m m' : Nat} {w' : World} {e : Ending} (h : SplitOk H a b is m w' e) (hm : m ≤ m') : SplitOk H a b is m' w' e := by
  obtain ⟨A, c, K, r1, r2, h1, h2, h4, h5⟩ := h
  exact ⟨A, c, K, r1, r2, h1, h2, h4.le hm, h5.le hm⟩
theorem MadeOk.le {H : Sh.Hp} {f : Int} {l : List Int} {m m' : Nat} {w' : World} {e : Ending} (h : MadeOk H f l m w' e) (hm : m ≤ m') : MadeOk H f l m' w' e := by
  obtain ⟨A, c, K, r, h1, h2, h4⟩ := h
  exact ⟨A, c, K, r, h1, h2, h4.le hm⟩
theorem split_ex (x : Int) (hx : Sh.el x = true) (A : Option Addr) (c : Nat) (w : World) (hC : Nodes w A Sh.H0) : Calls Tryz.prog 44 #[.slice A 6 c, shV 3 3 3, .int .i64 x] w fun e w' => SplitOk Sh.H0 (Sh.below [5, 9, 12] x) (Sh.above [5, 9, 12] x) (([5, 9, 12] : List Int).contains x) 80 w' e ∧ Below w.heap.size w w' := by
  obtain ⟨t, T, h0, h1⟩ := H0_t
  have hs : Sh.sought Sh.H0 3 3 3 x = ([5, 9, 12], 0) := by unfold Sh.sought; rw [H0_T, if_neg (fun h => by rw [hx] at h; exact absurd h.2 (by decide))]
  exact (split_is hC (H0_lists nd3) hs T (by decide) Sh.H0_small).mono fun e w' h => ⟨h.1.le (by omega), h.2⟩
theorem join_ex (A : Option Addr) (c : Nat) (w : World) (hC : Nodes w A Sh.H0) : Calls Tryz.prog 47 #[.slice A 6 c, shV 3 3 3, .int .i64 20, shV 3 (-1) 0] w fun e w' => MadeOk Sh.H0 3 [5, 9, 12, 20] 24 w' e ∧ Below w.heap.size w w' := by
  obtain ⟨t, T, h0, h1⟩ := H0_t
  obtain ⟨t2, T2, h2⟩ := H0_n
  have hs : Sh.sought Sh.H0 3 (-1) 0 20 = ([], 0) := by unfold Sh.sought; rw [H0_N]; rfl
  have hb : Sh.between [5, 9, 12] [] 20 := by
    refine ⟨fun y hy => ?_, fun y hy => by cases hy⟩
    simp only [List.mem_cons, List.not_mem_nil, or_false] at hy
    omega
  exact (join_is hC (H0_lists nd3) H0_T hs T T2 hb (by omega) (by omega) (by decide) Sh.H0_small).mono fun e w' h => ⟨h.1.le (by omega), h.2⟩
theorem finds_array {H : Sh.Hp} {root x : Int} (ht : Sh.there H root = true) (hbig : (Sh.nd H root).1.length ≤ 1000000) : FindsF H 1 root x (Sh.findA (Sh.nd H root).1 x ((Sh.nd H root).1.length + 1) 0 (Sh.nd H root).1.length 0).1 (Sh.findA (Sh.nd H root).1 x ((Sh.nd H root).1.length + 1) 0 (Sh.nd H root).1.length 0).2 := by
  intro ty k hk A c w hC
  rcases hk with ⟨rfl, rfl, _⟩ | ⟨_, _, h⟩ | ⟨_, _, h⟩ | ⟨_, _, h⟩ | ⟨_, _, h⟩
  · exact afind_calls H root x A c w hC ht hbig
  all_goals exact absurd h (by omega)
theorem finds_hash {H : Sh.Hp} {root x : Int} (ht : Sh.there H root = true) (hx : 0 ≤ x) (hx1 : x ≤ 1000000) (hpos : 0 < (Sh.nd H root).1.length) (hbig : (Sh.nd H root).1.length ≤ 100000) : FindsF H 5 root x (decide (Sh.gi (Sh.nd H root).1 (Sh.slot (Sh.nd H root).1 x (Sh.place (Sh.nd H root).1 x)) = x)) (Sh.place (Sh.nd H root).1 x + 1) := by
  intro ty k hk A c w hC
  rcases hk with ⟨_, _, h⟩ | ⟨_, _, h⟩ | ⟨_, _, h⟩ | ⟨_, _, h⟩ | ⟨rfl, rfl, _⟩
  · exact absurd h (by omega)
  · exact absurd h (by omega)
  · exact absurd h (by omega)
  · exact absurd h (by omega)
  · exact hfind_calls H root x A c w hC ht hx hx1 hpos hbig
theorem has_ex (A : Option Addr) (c : Nat) (w : World) (hC : Nodes w A Sh.H0) : Calls Tryz.prog 17 #[.slice A 6 c, shV 1 0 3, .int .i64 9] w fun e w' => e = .returned (.tuple #[.bool true, .int .i64 0]) ∧ Below w.heap.size w w' := by
  have hs : (Sh.sought Sh.H0 1 0 3 9).2 = 0 := by unfold Sh.sought; rw [H0_A]; rfl
  exact Has_of (H := Sh.H0) w hC (fun W hW => search_good Sh.H0 1 0 3 9 true _ A c W hW (H0_lists nd1) hs (by omega) (by omega) (finds_array (by decide) (by decide)))
theorem steps_ex {f root n x : Int} {b : Bool} {k : Nat} (hd : ¬ Digital f) (hs : (Sh.sought Sh.H0 f root n x).2 = 0) (h1 : 1 ≤ f) (h5 : f ≤ 5) (hF : FindsF Sh.H0 f root x b k) (A : Option Addr) (c : Nat) (w : World) (hC : Nodes w A Sh.H0) : Calls Tryz.prog 27 #[.slice A 6 c, shV f root n, .int .i64 x] w fun e w' => e = .returned (.tuple #[.int .i64 k, .int .i64 0]) ∧ Below w.heap.size w w' :=
  Steps_of (H := Sh.H0) w hC (fun W hW => search_good Sh.H0 f root n x b k A c W hW (H0_lists hd) hs h1 h5 hF)
theorem steps_S (A : Option Addr) (c : Nat) (w : World) (hC : Nodes w A Sh.H0) : Calls Tryz.prog 27 #[.slice A 6 c, shV 5 4 2, .int .i64 21] w fun e w' => e = .returned (.tuple #[.int .i64 3, .int .i64 0]) ∧ Below w.heap.size w w' :=
  steps_ex nd5 (by unfold Sh.sought; rw [H0_S]; rfl) (by omega) (by omega) (finds_hash (H := Sh.H0) (root := 4) (x := 21) (by decide) (by omega) (by omega) (by decide) (by decide)) A c w hC
theorem nodes_ex {fa ra na fb rb nb : Int} {ma mb : List Bool} (hda : ¬ Digital fa) (hdb : ¬ Digital fb) (ha : (Sh.listed Sh.H0 fa ra na).2 = 0) (hb : (Sh.listed Sh.H0 fb rb nb).2 = 0) (hra : Sh.walkR Sh.H0 7 ra (List.replicate 6 false) = some ma) (hrb : Sh.walkR Sh.H0 7 rb (List.replicate 6 false) = some mb) (A : Option Addr) (c : Nat) (w : World) (hC : Nodes w A Sh.H0) :
    Calls Tryz.prog 18 #[.slice A 6 c, shV fa ra na, shV fb rb nb] w fun e w' => e = .returned (.tuple #[.int .i64 (Sh.ca ma : Nat), .int .i64 (Sh.cb ma mb : Nat), .int .i64 0]) ∧ Below w.heap.size w w' :=
  Nodes_calls Sh.H0 fa ra na fb rb nb A c w ma mb hC (fun p hp => (Sh.H0_small p hp).2) (by decide) (H0_lists hda) (H0_lists hdb) ha hb hra hrb
theorem nodes_TT (A : Option Addr) (c : Nat) (w : World) (hC : Nodes w A Sh.H0) : Calls Tryz.prog 18 #[.slice A 6 c, shV 3 3 3, shV 3 3 3] w fun e w' => e = .returned (.tuple #[.int .i64 3, .int .i64 3, .int .i64 0]) ∧ Below w.heap.size w w' :=
  nodes_ex (ma := [false, true, true, true, false, false]) (mb := [false, true, true, true, false, false]) nd3 nd3 (by rw [H0_T]) (by rw [H0_T]) (by decide) (by decide) A c w hC
def ListOk (l : List Int) (w' : World) (e : Ending) : Prop := ∃ A c, e = .returned (.tuple #[.slice A l.length c, .int .i64 0]) ∧ l.length ≤ c ∧ Kd.C kI w' A l.length l
theorem list_ex {f root n : Int} {l : List Int} (hd : ¬ Digital f) (h : Sh.listed Sh.H0 f root n = (l, 0)) (A : Option Addr) (c : Nat) (w : World) (hC : Nodes w A Sh.H0) : Calls Tryz.prog 16 #[.slice A 6 c, shV f root n] w fun e w' => ListOk l w' e ∧ Below w.heap.size w w' := by
  refine (List_calls Sh.H0 f root n A c w hC (H0_lists hd)).mono ?_
  rw [h]
  rintro e w' ⟨⟨v, l1, rfl, ho, h1, h2⟩, hB⟩
  obtain rfl : l1 = l := h2 hd
  obtain ⟨A2, c2, rfl, hc2, hC2⟩ := Kd.R_reads ho
  exact ⟨⟨A2, c2, rfl, hc2, hC2⟩, hB⟩
theorem check_ex {f root n e0 : Int} (hd : ¬ Digital f) (h : (Sh.listed Sh.H0 f root n).2 = e0) (A : Option Addr) (c : Nat) (w : World) (hC : Nodes w A Sh.H0) : Calls Tryz.prog 22 #[.slice A 6 c, shV f root n] w fun e w' => e = .returned (.int .i64 e0) ∧ Below w.heap.size w w' := by
  subst h
  exact Check_calls Sh.H0 f root n A c w hC (H0_lists hd)
end Go.Proofs.YtbfedeedicnedaaGreat
end

section
set_option linter.unusedVariables false
set_option linter.unusedSimpArgs false
namespace Go.Proofs.YtbfedeedicnedaaGreat
open Go.RowKit
open Go.Proofs.YtbfedeedicnedaaGreatW.PrintWords
theorem lit_C (W : World) (l : List Int) (cs : Array Value) (hcs : cs = (nums .i64 l).toArray) (hm : l.length ≤ 1000000) : Kd.C kI (W.alloc (.cells cs 3)) (some ⟨W.heap.size, 0, none⟩) l.length l := by
  obtain ⟨A, c, e, _, hC⟩ := Kd.R_reads (lit_ints W 0 l cs l.length (Nat.zero_le _) (by omega) hcs rfl)
  simp only [Value.slice.injEq] at e
  rw [e.1]
  exact hC
def MadeAt (W : World) (A : Option Addr) (q c : Nat) (f r n : Int) (l : List Int) (m : Nat) : Prop := ∃ K : Sh.Hp, q = K.length ∧ Kd.R kSN 95 W 0 (fun _ => True) (.slice A q c) (sn K) ∧ Sh.Has Sh.H0 K f r l m ∧ n = l.length
theorem MadeAt.below {W W' : World} {A : Option Addr} {q c : Nat} {f r n : Int} {l : List Int} {m : Nat} (h : MadeAt W A q c f r n l m) (hB : Below W.heap.size W W') : MadeAt W' A q c f r n l m := by
  obtain ⟨K, h1, h2, h3⟩ := h
  exact ⟨K, h1, Kd.R_below h2 hB, h3⟩
theorem MadeAt.set {W : World} {A : Option Addr} {q c g : Nat} {f r n : Int} {l : List Int} {m : Nat} {cs : Array Value} (h : MadeAt W A q c f r n l m) (hg : W.heap[g]? = some (.cells cs 25 (0, 0))) (x y z : Value) : MadeAt (((W.setCell ⟨g, 0, none⟩ x).setCell ⟨g, 1, none⟩ y).setCell ⟨g, 2, none⟩ z) A q c f r n l m := by
  obtain ⟨K, h1, h2, h3⟩ := h
  exact ⟨K, h1, out_set h2 hg x y z, h3⟩
theorem holds_at {W : World} {A : Option Addr} {q c : Nat} {f r n : Int} {l : List Int} {m : Nat} (h : MadeAt W A q c f r n l m) {k : Nat} (hk : k = l.length) {m' : Int} (hm' : (m : Int) ≤ m') (hm9 : m ≤ 1000) (AH : Option Addr) (cH : Nat) (hH : Nodes W AH Sh.H0) (hcH : 6 ≤ cH) (A2 : Option Addr) (c2 : Nat) (hL : Kd.C kI W A2 k l) (hc2 : k ≤ c2) (hl : k ≤ 1000) :
    Calls Tryz.prog 32 #[.slice AH 6 cH, .slice A q c, shV f r n, .int .i64 f, .slice A2 k c2, .int .i64 m'] W fun e w' => e = .returned (.bool true) ∧ Below W.heap.size W w' := by
  obtain ⟨K, rfl, hR, hh, hn⟩ := h
  subst hk
  have hr := Kd.R_reads' hR
  rw [sn_len] at hr
  exact holds_has hh hn hm' (by omega) AH cH A c A2 c2 W hH hcH hr.2.2 hr.2.1 hL hc2 (by decide) (by omega) Sh.H0_small
theorem MadeOk.v {f n : Int} {l : List Int} {m : Nat} {w' : World} {e : Ending} (h : MadeOk Sh.H0 f l m w' e) (hn : n = l.length) : ∃ A q c r, e = .returned (.tuple #[.slice A q c, shV f r n, .int .i64 0]) ∧ MadeAt w' A q c f r n l m := by
  obtain ⟨A, c, K, r, rfl, h2, h3⟩ := h
  subst hn
  exact ⟨A, _, c, r, rfl, K, rfl, h2, h3, rfl⟩
theorem SplitOk.v {n1 n2 : Int} {a b : List Int} {is : Bool} {m : Nat} {w' : World} {e : Ending} (h : SplitOk Sh.H0 a b is m w' e) (h1 : n1 = a.length) (h2 : n2 = b.length) : ∃ A q c r1 r2, e = .returned (.tuple #[.slice A q c, shV 3 r1 n1, shV 3 r2 n2, .bool is, .int .i64 0]) ∧ MadeAt w' A q c 3 r1 n1 a m ∧ MadeAt w' A q c 3 r2 n2 b m := by
  obtain ⟨A, c, K, r1, r2, rfl, hR, h4, h5⟩ := h
  subst h1; subst h2
  exact ⟨A, _, c, r1, r2, rfl, ⟨K, rfl, hR, h4, rfl⟩, ⟨K, rfl, hR, h5, rfl⟩⟩
theorem made_v {k : Nat} {args : Array Value} {w : World} {f : Int} {l : List Int} {m : Nat} (h : Calls Tryz.prog k args w fun e w' => MadeOk Sh.H0 f l m w' e ∧ Below w.heap.size w w') (n : Int) (hn : n = l.length) :
    Calls Tryz.prog k args w fun e w' => (∃ A q c r, e = .returned (.tuple #[.slice A q c, shV f r n, .int .i64 0]) ∧ MadeAt w' A q c f r n l m) ∧ Below w.heap.size w w' := h.mono fun e w' h => ⟨h.1.v hn, h.2⟩
theorem list_T (A : Option Addr) (c : Nat) (w : World) (hC : Nodes w A Sh.H0) : Calls Tryz.prog 16 #[.slice A 6 c, shV 3 3 3] w fun e w' => (∃ A c, e = .returned (.tuple #[.slice A 3 c, .int .i64 0]) ∧ 3 ≤ c ∧ Kd.C kI w' A 3 [5, 9, 12]) ∧ Below w.heap.size w w' := list_ex nd3 H0_T A c w hC
theorem store3 {w : World} {g : Nat} {a b c : Value} (h : w.heap[g]? = some (.cells #[a, b, c] 25 (0, 0))) (x y z : Int) :
    ∃ v1 v2 v3, (w.setCell ⟨g, 0, none⟩ (.int .i64 x) = v1 ∧ v1.setCell ⟨g, 1, none⟩ (.int .i64 y) = v2 ∧ v2.setCell ⟨g, 2, none⟩ (.int .i64 z) = v3) ∧ (w.cell? ⟨g, 0, none⟩ = some a ∧ v1.cell? ⟨g, 1, none⟩ = some b ∧ v2.cell? ⟨g, 2, none⟩ = some c) ∧
      (w.frozen? ⟨g, 0, none⟩ = false ∧ v1.frozen? ⟨g, 1, none⟩ = false ∧ v2.frozen? ⟨g, 2, none⟩ = false) ∧ v3 = ((w.setCell ⟨g, 0, none⟩ (.int .i64 x)).setCell ⟨g, 1, none⟩ (.int .i64 y)).setCell ⟨g, 2, none⟩ (.int .i64 z) :=
  ⟨_, _, _, ⟨rfl, rfl, rfl⟩, ⟨by rw [blk_cell h]; rfl, by rw [blk_cell (blk_set h 0 _)]; rfl, by rw [blk_cell (blk_set (blk_set h 0 _) 1 _)]; rfl⟩,
    ⟨blk_frozen h _, blk_frozen (blk_set h 0 _) _, blk_frozen (blk_set (blk_set h 0 _) 1 _) _⟩, rfl⟩
theorem blk_store3 {w : World} {g k : Nat} {o : Obj} (h : w.heap[k]? = some o) (hn : k ≠ g) (x y z : Value) : (((w.setCell ⟨g, 0, none⟩ x).setCell ⟨g, 1, none⟩ y).setCell ⟨g, 2, none⟩ z).heap[k]? = some o := by
  rw [Go.Deep.blk_setCell_other _ ⟨g, 2, none⟩ z k hn, Go.Deep.blk_setCell_other _ ⟨g, 1, none⟩ y k hn, Go.Deep.blk_setCell_other _ ⟨g, 0, none⟩ x k hn]
  exact h
theorem below_step {w0 W W' : World} (h1 : Below w0.heap.size w0 W) (h2 : Below W.heap.size W W') : Below w0.heap.size w0 W' := h1.trans (h2.mono h1.size)
theorem H_lit (W : World) (l : List Int) (cs : Array Value) (hcs : cs = (nums .i64 l).toArray) (hm : l.length ≤ 1000000) : Calls Tryz.prog 49 #[] (W.alloc (.cells cs 3)) fun e w' => (∃ A c, e = .returned (.slice A 6 c) ∧ 6 ≤ c ∧ Nodes w' A Sh.H0) ∧ Kd.C kI w' (some ⟨W.heap.size, 0, none⟩) l.length l ∧ Below W.heap.size W w' :=
  (H_calls _).mono fun e w' h => ⟨h.1, Kd.C_below (lit_C W l cs hcs hm) h.2, below_step ((Below.refl _ _).alloc (Nat.le_refl _) _) h.2⟩
theorem H_litd (W : World) (l : List Int) (cs : Array Value) (hcs : cs = (nums .i64 l).toArray) (hm : l.length ≤ 1000000) : Calls Tryz.prog 49 #[] (W.alloc (.cells cs 3)).drew fun e w' => (∃ A c, e = .returned (.slice A 6 c) ∧ 6 ≤ c ∧ Nodes w' A Sh.H0) ∧ Kd.C kI w' (some ⟨W.heap.size, 0, none⟩) l.length l ∧ Below W.heap.size W w' :=
  (H_calls _).mono fun e w' h => ⟨h.1, Kd.C_below (Kd.C_below (lit_C W l cs hcs hm) (Below.refl _ _).drew) h.2, below_step (((Below.refl _ _).alloc (Nat.le_refl _) _).drew) h.2⟩
theorem list_lit (v : Value) (W : World) (l : List Int) (cs : Array Value) (hcs : cs = (nums .i64 l).toArray) (hm : l.length ≤ 1000000) : Calls Tryz.prog 40 #[v] (W.alloc (.cells cs 3)) fun e w' => e = .returned v ∧ Kd.C kI w' (some ⟨W.heap.size, 0, none⟩) l.length l ∧ Below W.heap.size W w' :=
  (list_calls _ _).mono fun e w' h => ⟨h.1, by rw [h.2]; exact lit_C W l cs hcs hm, by rw [h.2]; exact (Below.refl _ _).alloc (Nat.le_refl _) _⟩
theorem split_v (A : Option Addr) (c : Nat) (w : World) (hC : Nodes w A Sh.H0) : Calls Tryz.prog 44 #[.slice A 6 c, shV 3 3 3, .int .i64 9] w fun e w' => (∃ A q c r1 r2, e = .returned (.tuple #[.slice A q c, shV 3 r1 1, shV 3 r2 1, .bool true, .int .i64 0]) ∧ MadeAt w' A q c 3 r1 1 [5] 80 ∧ MadeAt w' A q c 3 r2 1 [12] 80) ∧ Below w.heap.size w w' :=
  (split_ex 9 (by decide) A c w hC).mono fun e w' h => ⟨SplitOk.v h.1 rfl rfl, h.2⟩
end Go.Proofs.YtbfedeedicnedaaGreat
end

section
set_option linter.unusedVariables false
set_option linter.unusedSimpArgs false
namespace Go.Proofs.YtbfedeedicnedaaGreat
open Go.RowKit
def regionOf (n : Nat) : Code → Option Code
  | .region id ops d => if id = n then some (.region id ops d) else none
  | .seq a b => match regionOf n a with
    | some c => some c
    | none => regionOf n b
  | .cond _ a b => match regionOf n a with
    | some c => some c
    | none => regionOf n b
  | .block _ c => regionOf n c
  | .scope c => regionOf n c
  | .loop c => regionOf n c
  | _ => none
noncomputable def wreg (n : Nat) : Code := (Tryz.f15.body.bind (regionOf n)).getD .skip
def afterStmt (n : Nat) : Code → Option Code
  | .seq a b => if (regionOf n a).isSome then some b else afterStmt n b
  | _ => none
noncomputable def wafter (n : Nat) : Code := (Tryz.f15.body.bind (afterStmt n)).getD .skip
end Go.Proofs.YtbfedeedicnedaaGreat
end
