/-
  ShapeJoins answers true for every input: the row.
-/
import Derived.Test.YtbfedeedicnedaaGreatSj49
set_option linter.unusedVariables false
set_option linter.unusedSimpArgs false
set_option maxHeartbeats 8000000
set_option maxRecDepth 100000
section
namespace Go.Proofs.YtbfedeedicnedaaGreat
open Go.RowKit
open Go.Proofs.YtbfedeedicnedaaGreatW.PrintWords
theorem getElem_gi (l : List Int) (i : Nat) (h : i < l.length) : l[i] = Sh.gi l i := by
  simp [Sh.gi, List.getD_eq_getElem?_getD, List.getElem?_eq_getElem h]
theorem between_of {l m : List Int} {x : Int} (hl : l.Pairwise (· < ·)) (hm : m.Pairwise (· < ·)) (h1 : Sh.lastB l x = true) (h2 : Sh.firstB m x = true) : Sh.between l m x := by
  refine ⟨fun y hy => ?_, fun y hy => ?_⟩
  · obtain ⟨i, hi, rfl⟩ := List.getElem_of_mem hy
    rcases last_of h1 with ⟨h, _⟩ | ⟨n, h, y, hy1, hb⟩
    · omega
    · have hyx : y < x := of_decide_eq_true hb.symm
      rw [← hy1] at hyx
      rw [← getElem_gi l n (by omega)] at hyx
      rcases Nat.lt_or_ge i n with h3 | h3
      · exact Int.lt_trans (List.pairwise_iff_getElem.1 hl i n hi (by omega) h3) hyx
      · obtain rfl : i = n := by omega
        exact hyx
  · obtain ⟨i, hi, rfl⟩ := List.getElem_of_mem hy
    rcases first_of h2 with ⟨h, _⟩ | ⟨n, h, y, hy1, hb⟩
    · omega
    · have hyx : x < y := of_decide_eq_true hb.symm
      rw [← hy1] at hyx
      rw [← getElem_gi m 0 (by omega)] at hyx
      rcases Nat.eq_zero_or_pos i with rfl | h3
      · exact hyx
      · exact Int.lt_trans hyx (List.pairwise_iff_getElem.1 hm 0 i (by omega) hi h3)
theorem not_between {l m : List Int} {x : Int} (h : ¬ (Sh.lastB l x = true ∧ Sh.firstB m x = true)) : ¬ Sh.between l m x := by
  intro hb
  refine h ⟨?_, ?_⟩
  · rcases last_of (rfl : Sh.lastB l x = Sh.lastB l x) with ⟨_, e⟩ | ⟨n, hn, y, hy, e⟩
    · exact e
    · rw [e, ← hy, ← getElem_gi l n (by omega)]
      exact decide_eq_true (hb.1 _ (List.getElem_mem _))
  · rcases first_of (rfl : Sh.firstB m x = Sh.firstB m x) with ⟨_, e⟩ | ⟨n, hn, y, hy, e⟩
    · exact e
    · rw [e, ← hy, ← getElem_gi m 0 (by omega)]
      exact decide_eq_true (hb.2 _ (List.getElem_mem _))
theorem listed_ok {H : Sh.Hp} {f root n : Int} (h : (Sh.listed H f root n).2 = 0) : ∃ l, Sh.elems H f root n = some l ∧ Sh.listed H f root n = (l, 0) := by
  have h3 : H.length ≤ 3000 := by
    refine Nat.le_of_not_lt fun h9 => ?_
    have e : Sh.listed H f root n = ([], 3) := by unfold Sh.listed; rw [if_pos h9]
    rw [e] at h
    exact absurd h (by decide)
  have hl := Sh.listed_elems H f root n h3
  cases he : Sh.elems H f root n with
  | none => rw [he] at hl; rw [hl] at h; exact absurd h (by decide)
  | some l => rw [he] at hl; exact ⟨l, rfl, hl⟩
theorem el_range {x : Int} (h : Sh.el x = true) : 0 ≤ x ∧ x ≤ 1023 := by
  unfold Sh.el at h
  simp only [Bool.and_eq_true, decide_eq_true_eq] at h
  exact h
theorem ShapeJoins_law (H : Sh.Hp) (A : Option Addr) (c : Nat) (hc : H.length ≤ c) {w : World} (hC : Nodes w A H) (fa ra na x fb rb nb : Int) (hsh : w.ShapedOpen Tryz.prog) :
    Calls Tryz.prog 10 #[.slice A H.length c, shV fa ra na, .int .i64 x, shV fb rb nb] w fun e w' => e = .returned (.bool true) ∧ Below w.heap.size w w' := by
  by_cases hb : Sh.largeB H = true
  · exact joins_works works_calls H fa ra na x fb rb nb A c w hC hc hb
  have hb' : Sh.largeB H = false := by simpa using hb
  have hT := tab_of_shaped hsh
  have hS := small_of hb'
  have hl6 : H.length ≤ 1000000 := by have := (Sh.largeB_small hb').1; omega
  have hLa := WT.listsF_all fa hS
  have hLb := WT.listsF_all fb hS
  by_cases h0 : (Sh.listed H fa ra na).2 = 0
  case neg =>
    exact joins_err works_calls H fa ra na x fb rb nb A c w hC hc hb' h0
      (fun W hW => WT.Join_bad1 (m := []) (wt_of hC hT hW) hLa (Prod.ext rfl rfl : Sh.listed H fa ra na = ((Sh.listed H fa ra na).1, (Sh.listed H fa ra na).2)) h0)
      (fun W hW => joined_err H fa ra na fb rb nb x A c W (Kd.C_below hC hW) hc hl6 hS (by unfold Sh.both; rw [if_neg h0]) h0)
  obtain ⟨l, hla, hlia⟩ := listed_ok h0
  by_cases h1 : (Sh.sought H fb rb nb x).2 = 0
  case neg =>
    refine joins_err works_calls H fa ra na x fb rb nb A c w hC hc hb' h1
      (fun W hW => WT.Join_bad2 (wt_of hC hT hW) hLa hLb hlia (Prod.ext rfl rfl : Sh.sought H fb rb nb x = ((Sh.sought H fb rb nb x).1, (Sh.sought H fb rb nb x).2)) h1) (fun W hW => ?_)
    by_cases h2 : (Sh.listed H fb rb nb).2 = 0
    · have hx : Sh.el x = false := by
        cases hx : Sh.el x
        · rfl
        · exfalso
          apply h1
          unfold Sh.sought
          rw [if_neg (fun h => by rw [hx] at h; exact absurd h.2 (by decide))]
          exact h2
      have e : (Sh.sought H fb rb nb x).2 = 2 := by unfold Sh.sought; rw [if_pos ⟨h2, hx⟩]
      rw [e]
      exact joined_out H fa ra na fb rb nb x A c W (Kd.C_below hC hW) hc hl6 hS (by unfold Sh.both; rw [if_pos h0, h2]) hx
    · have e : (Sh.sought H fb rb nb x).2 = (Sh.listed H fb rb nb).2 := by unfold Sh.sought; rw [if_neg (fun h => h2 h.1)]
      rw [e]
      exact joined_err H fa ra na fb rb nb x A c W (Kd.C_below hC hW) hc hl6 hS (by unfold Sh.both; rw [if_pos h0]) h2
  obtain ⟨h3, hx, m, hlb, hs, hlib⟩ := sought_ok h1
  have hbo : Sh.both H fa ra na fb rb nb = 0 := by unfold Sh.both; rw [if_pos h0, hlib]
  by_cases hfa : fa = 3
  case neg =>
    exact joins_err works_calls H fa ra na x fb rb nb A c w hC hc hb' (e0 := 7) (by decide)
      (fun W hW => WT.Join_bad3 (wt_of hC hT hW) hLa hLb hlia hs (.inl hfa))
      (fun W hW => joined_rule1 H fa ra na fb rb nb x A c W (Kd.C_below hC hW) hc hl6 hS hbo hx h3 hla hlb hfa)
  by_cases hfb : fb = 3
  case neg =>
    exact joins_err works_calls H fa ra na x fb rb nb A c w hC hc hb' (e0 := 7) (by decide)
      (fun W hW => WT.Join_bad3 (wt_of hC hT hW) hLa hLb hlia hs (.inr hfb))
      (fun W hW => joined_rule2 H fa ra na fb rb nb x A c W (Kd.C_below hC hW) hc hl6 hS hbo hx h3 hla hlb hfa hfb)
  subst hfa
  subst hfb
  obtain ⟨ta, Ta⟩ := listed_tree hlia
  obtain ⟨tb, Tb⟩ := listed_tree hlib
  have hll : l.length ≤ 1024 := Sh.els_len (Sh.listTree_els (Sh.listTree_iff.2 ⟨ta, Ta⟩))
  have hmm : m.length ≤ 1024 := Sh.els_len (Sh.listTree_els (Sh.listTree_iff.2 ⟨tb, Tb⟩))
  have hjd := fun r (hr : r = if Sh.lastB l x && Sh.firstB m x then 0 else 7) W (hW : Below w.heap.size w W) => joined_tree H 3 ra na 3 rb nb x A c W (Kd.C_below hC hW) hc hl6 hS hbo hx h3 hla hlb rfl rfl (by omega) (by omega) rfl rfl hr
  by_cases hbt : Sh.lastB l x = true ∧ Sh.firstB m x = true
  · obtain ⟨hx0, hx1⟩ := el_range hx
    exact joins_good works_calls H ra na x rb nb ta tb l m A c w hC hc hb' h3 hlia hs hla hlb Ta Tb (between_of Ta.rise Tb.rise hbt.1 hbt.2) hx0 hx1 (fun W hW => hjd 0 (by rw [hbt.1, hbt.2]; rfl) W hW)
  · have hz : (Sh.lastB l x && Sh.firstB m x) = false := by
      rw [← Bool.not_eq_true, Bool.and_eq_true]
      exact hbt
    exact joins_err works_calls H 3 ra na x 3 rb nb A c w hC hc hb' (e0 := 7) (by decide)
      (fun W hW => Join_bad4 (Kd.C_below hC hW) (listsF_plain (fun p hp => (hS h3 p hp).1) nd3) hlia hs Ta Tb (by omega) (by omega) (not_between hbt))
      (fun W hW => hjd 7 (by rw [hz]; rfl) W hW)
end Go.Proofs.YtbfedeedicnedaaGreat
end
section
namespace Go.Proofs.YtbfedeedicnedaaGreat
open Go.ChangeShapes Go.WideShapes Go.ChangeAt Go.RowKit
open Go.Proofs.YtbfedeedicnedaaGreatW.PrintWords
theorem liftedShapeJoins (os : Os) (started : os.Started) (H : Type) (enc : TypeId × Value → H) :
    ReturnsInHanded {} Tryz.checked os 10 .any (Rows.shapeJoinsSpec.pre6 enc Tryz.prog Tryz.f10 Rows.shapeJoinsRow.domain false) (Rows.shapeJoinsSpec.post enc Tryz.prog Tryz.f10 false true false false) := by
  refine handed_shaped (C := Tryz.checked) ownK started (by kernel_rfl) Tryz.func10
    (ChangeSpec.witness6 (enc := enc) (C := Tryz.checked) false ⟨#[], #[.slice none 0 0, .agg #[.int .i64 0, .int .i64 0, .int .i64 0], .int .i64 0, .agg #[.int .i64 0, .int .i64 0, .int .i64 0]], []⟩ 8 (by kernel_rfl) (by kernel_rfl) (by kernel_rfl) (by kernel_rfl)) ?_
  intro W base args ds gs before hval0 hW hcnd hsh
  have hval : ∀ (j : Nat) t v, Tryz.f10.params[j]? = some t → args[j]? = some v → Value.okWide Tryz.prog W .any base t v := hval0
  have hW' := hW
  obtain ⟨p, q, hA0, hV, rfl, hfz, hnd⟩ := hW
  have hA : DataW.TrodAll enc Tryz.prog W 0 (fun _ => true) true Tryz.f10.params.toList args.toList ds p := hA0
  rw [Tryz.params10] at hA hval
  obtain ⟨v0, vs0, d0, ds0, p0, q0, hargs, rfl, rfl, h0, r0⟩ := trodAll_cons hA
  obtain ⟨v1, vs1, d1, ds1, p1, q1, rfl, rfl, rfl, h1, r1⟩ := trodAll_cons r0
  obtain ⟨v2, vs2, d2, ds2, p2, q2, rfl, rfl, rfl, h2, r2⟩ := trodAll_cons r1
  obtain ⟨v3, vs3, d3, ds3, p3, q3, rfl, rfl, rfl, h3, r3⟩ := trodAll_cons r2
  obtain ⟨rfl, rfl, rfl⟩ := trodAll_nil r3
  obtain rfl : args = #[v0, v1, v2, v3] := by cases args; simp_all
  obtain ⟨rfl, rfl⟩ := trodVars_none hV
  obtain ⟨a0, len0, cap0, rfl⟩ := okWide_slice Tryz.underlying22 (hval 0 22 v0 rfl rfl)
  obtain ⟨x0, rfl, m0, c0⟩ := open_heap h0
  obtain ⟨f1, r1', n1, rfl⟩ := open_shape (hval 1 25 v1 rfl rfl) h1
  obtain ⟨x2, rfl, rfl, rfl, w2⟩ := open_int Tryz.underlying3 (hval 2 3 v2 rfl rfl) h2
  obtain ⟨f3, r3', n3, rfl⟩ := open_shape (hval 3 25 v3 rfl rfl) h3
  clear hA0 hval0
  refine (ShapeJoins_law x0 a0 cap0 m0 c0 f1 r1' n1 x2 f3 r3' n3 hsh).mono fun e W' ⟨he, bel⟩ => ?_
  subst he
  exact ⟨_, rfl, _, _, _, [], _, [], hW', trodAll_mk1 (shut_bool Tryz.underlying4 _), (trodAll_cons_mk (Below.trod laidOut (by kernel_rfl) (of_decide_eq_true (by kernel_rfl)) h0 bel (trod_low h0)) (trodAll_cons_mk (Below.trod laidOut (by kernel_rfl) (of_decide_eq_true (by kernel_rfl)) h1 bel (trod_low h1)) (trodAll_cons_mk (shut_int Tryz.underlying3 w2) (trodAll_cons_mk (Below.trod laidOut (by kernel_rfl) (of_decide_eq_true (by kernel_rfl)) h3 bel (trod_low h3)) trodAll_mk0)))), rfl, bel.frame _, fun h => by cases h⟩
theorem shapeJoins_holds : Rows.ShapeJoinsSaid :=
  OpenClaim.holds_of_wide 10 Tryz.f10 rfl rfl rfl rfl rfl rfl rfl ⟨rfl, rfl, rfl, rfl, rfl⟩ rfl rfl rfl rfl rfl (by kernel_rfl) Tryz.func10 (by kernel_rfl)
    (of_decide_eq_true (by kernel_rfl)) (by unfold Func.isWrapper; first | (rw [if_pos (by decide +kernel)]; kernel_rfl) | (rw [if_neg (by decide +kernel)]; exact ⟨rfl, rfl⟩))
    (fun os started H enc _ => liftedShapeJoins os started H enc)
end Go.Proofs.YtbfedeedicnedaaGreat
end
