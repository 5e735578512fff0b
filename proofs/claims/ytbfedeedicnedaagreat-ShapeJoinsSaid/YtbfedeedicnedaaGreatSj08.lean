/-
  Texts of this claim: ShBA.
-/
import Derived.Test.YtbfedeedicnedaaGreatSj07
import Derived.Deep.RegionLaw
set_option linter.unusedVariables false
set_option linter.unusedSimpArgs false
set_option maxHeartbeats 8000000
set_option maxRecDepth 100000
section
namespace Go.Proofs.YtbfedeedicnedaaGreat
open Go.RowKit
open Go.Proofs.YtbfedeedicnedaaGreatW.PrintWords
namespace Sh
def lead (x : Int) : List Int → Nat
  | [] => 0
  | y :: l => if y < x then lead x l + 1 else 0
theorem lead_le (x : Int) (l : List Int) : lead x l ≤ l.length := by
  induction l with
  | nil => exact Nat.le_refl _
  | cons y l ih =>
    show (if y < x then lead x l + 1 else 0) ≤ l.length + 1
    split <;> omega
theorem lead_at (x : Int) (l : List Int) (k : Nat) (h : k < l.length) : lead x (l.drop k) = if gi l k < x then lead x (l.drop (k + 1)) + 1 else 0 := by
  have e : l.drop k = gi l k :: l.drop (k + 1) := by
    rw [List.drop_eq_getElem_cons h]
    unfold gi
    rw [List.getD_eq_getElem?_getD, List.getElem?_eq_getElem h]
    rfl
  rw [e]
  rfl
def withF (l : List Int) (x : Int) : List Int := if lead x l < l.length ∧ gi l (lead x l) = x then l else l.take (lead x l) ++ [x] ++ l.drop (lead x l)
theorem withF_len (l : List Int) (x : Int) : (withF l x).length ≤ l.length + 1 := by
  unfold withF
  have := lead_le x l
  split
  · omega
  · simp only [List.length_append, List.length_take, List.length_drop, List.length_singleton]
    omega
end Sh
def GotV (w' : World) (e : Ending) (l : List Int) : Prop := ∃ A c, e = .returned (.slice A l.length c) ∧ l.length ≤ c ∧ Kd.C kI w' A l.length l
theorem Ints.gotV {w : World} {base : Nat} {v : Value} {l : List Int} (h : Ints w base v l) : GotV w (.returned v) l := by
  obtain ⟨A, c, rfl, hc, hC⟩ := Kd.R_reads h
  exact ⟨A, c, rfl, hc, hC⟩
section
variable {ops : Array Oper} {o : Oper} {a : Act} {Q : Exit → Act → World → Prop} {Kc : Act → World → Prop}
theorem app_all_step {w0 W : World} (base : Nat) (hw : Region.wanted o (yielded ops a.tmps) = true) (s x : Operand)
    (ho : o.op = .call { callee := .builtin .append, args := #[s, x], argTypes := #[28, 28] })
    (v : Value) (xs ys : List Int) (A : Option Addr) (m c : Nat) (hs : a.eval s = v) (hx : a.eval x = .slice A m c)
    (HO : Ints W base v xs) (HR : Kd.C kI W A m ys) (HB : Below base w0 W) (hbase : base ≤ W.heap.size) (hl : xs.length + m ≤ 1000000)
    (h : ∀ v1 w1, Ints w1 base v1 (xs ++ ys) → Below base w0 w1 → W.grownBy w1 v.ownBlock → Kc (a.put o.dst v1) w1) :
    if Region.wanted o (yielded ops a.tmps) = true then Oper.wp Tryz.prog o a W Kc Q else Kc (a.put o.dst undef) W :=
  Kd.R_append_rows_step kI (Rr := kI.K W) base hw s x 28 3 (.int .i64 0) 8 ho (by kernel_rfl) PAll.info3 rfl (by decide) (by omega) v xs ys A m c (fun _ => True) (fun _ => False) hs hx HO HR (fun _ _ h => h) (fun _ h => h.elim) (fun _ _ => trivial) HB hbase (by omega) (fun v1 w1 a b c _ => h v1 w1 a b c)
end
theorem lit_read {W W' : World} {x : Int} (h : Below (W.heap.size + 1) (W.alloc (.cells #[.int .i64 x] 3)) W') : Kd.C kI W' (some ⟨W.heap.size, 0, none⟩) 1 [x] := by
  refine Kd.C_of_reads (d := (0 : Int)) ⟨rfl, by omega, fun _ => ⟨_, rfl, fun j hj => ?_⟩⟩
  obtain rfl : j = 0 := by omega
  show W'.cell? ⟨W.heap.size, 0, none⟩ = some (.int .i64 x)
  rw [h.cell (p := ⟨W.heap.size, 0, none⟩) (by show W.heap.size < _; omega)]
  simp
theorem with_calls (l : List Int) (x : Int) (A : Option Addr) (c : Nat) (w : World) (hC : Kd.C kI w A l.length l) (hc : l.length ≤ c) (hl : l.length ≤ 100000) :
    Calls Tryz.prog 80 #[.slice A l.length c, .int .i64 x] w fun e w' => GotV w' e (Sh.withF l x) ∧ Below w.heap.size w w' := by
  obtain ⟨K, hK⟩ : ∃ K, K = Sh.lead x l := ⟨_, rfl⟩
  have hKl : K ≤ l.length := by rw [hK]; exact Sh.lead_le x l
  obtain ⟨R, hR⟩ : ∃ R, R = Sh.withF l x := ⟨_, rfl⟩
  rw [← hR]
  have hRl := Sh.withF_len l x
  unfold Sh.withF at hR
  rw [← hK] at hR
  have hKr : ∀ k, k < l.length → (Sh.lead x (l.drop k) = if Sh.gi l k < x then Sh.lead x (l.drop (k + 1)) + 1 else 0) := fun k hk => Sh.lead_at x l k hk
  obtain ⟨s1, s2, s3⟩ := take_at A c l K hKl hc
  obtain ⟨A2, t1, t2, t3⟩ := drop_at A c l K hKl hc
  have hCW := Lib.hid (fun W (hW : Below w.heap.size w W) => (Kd.C_below hC hW : Kd.C kI W A l.length l))
  have hlen1 : (l.take K).length = K := by rw [List.length_take]; omega
  have hlen2 : (l.drop K).length = l.length - K := by rw [List.length_drop]
  have hT := Lib.hid (fun W hW => s2 W (hCW.out W hW))
  have hD := Lib.hid (fun W hW => t2 W (hCW.out W hW))
  rw [hlen1] at hT
  rw [hlen2] at hD
  obtain ⟨T, hTn⟩ : ∃ T, T = l.take K := ⟨_, rfl⟩
  obtain ⟨D, hDn⟩ : ∃ D, D = l.drop K := ⟨_, rfl⟩
  rw [← hTn] at hT hR
  rw [← hDn] at hD hR
  have hTl := Lib.hid (show T.length = K by rw [hTn]; exact hlen1)
  replace hTn := Lib.hid hTn
  replace hDn := Lib.hid hDn
  obtain ⟨n, hn⟩ : ∃ n, n = l.length := ⟨_, rfl⟩
  have hcell : ∀ k, k < n → ∃ ad, A = some ad ∧ w.cell? (ad.add k) = some (.int .i64 (Sh.gi l k)) := fun k hk => by
    obtain ⟨ad, e, h⟩ := at_int hC (k : Int) (by omega) (by omega)
    rw [Int.toNat_natCast] at h
    exact ⟨ad, e, h⟩
  replace hcell := Lib.hid hcell
  rw [← hn] at hc hKl s1 t1 hl hlen2 hD
  have hnh := Lib.hid hn
  have hKr2 := Lib.hid (fun k (hk : k < n) => hKr k (by omega))
  replace hR := Lib.hid hR
  have hK0 := Lib.hid (show K = 0 + Sh.lead x (l.drop 0) by rw [hK, List.drop_zero]; omega)
  have hC0 := Lib.hid hC
  rw [← hn]
  rw [hlen1] at s1
  rw [hlen2] at t1
  clear hC hK hKr s2 t2 hn hlen1 hlen2 s3 t3 hRl
  go_enter Tryz.func80, Tryz.ntmps80
  go_wp2
  go_loopg [5] n (fun g v5 wr => ∃ k : Nat, v5 = .int .i64 k ∧ k ≤ n ∧ Hid (g + k = n) ∧ wr = w ∧ Hid (K = k + Sh.lead x (l.drop k)))
  case atStart => exact ⟨0, rfl, Nat.zero_le _, Lib.hid rfl, rfl, hK0⟩
  case round =>
    obtain ⟨k, rfl, hk, hg, rfl, hKk⟩ := hrel
    by_cases hlt : k < n
    case pos =>
      obtain ⟨ad, rfl, e0⟩ := hcell.out k hlt
      have hst := hKr2.out k hlt
      obtain ⟨y, hy⟩ : ∃ y, y = Sh.gi l k := ⟨_, rfl⟩
      rw [← hy] at e0 hst
      by_cases hyx : y < x
      case pos =>
        rw [if_pos hyx] at hst
        have hK2 : Hid (K = (k + 1) + Sh.lead x (l.drop (k + 1))) := Lib.hid (by rw [hKk.out, hst]; omega)
        clear hst hy s1 t1
        go_wp2
        go_roundg (n - (k + 1))
        case measure => have := hg.out; omega
        case rel => exact ⟨k + 1, by go_num, by omega, Lib.hid (by omega), rfl, hK2⟩
      case neg =>
        rw [if_neg hyx] at hst
        obtain rfl : K = k := by rw [hKk.out, hst]; rfl
        by_cases hyx2 : y = x
        case pos =>
          obtain rfl : R = l := by rw [hR.out]; exact if_pos ⟨by have := hnh.out; omega, by rw [← hy]; exact hyx2⟩
          have hyb : (y == x) = true := beq_iff_eq.mpr hyx2
          have hyd : decide (y < x) = false := decide_eq_false hyx
          clear hst hy hyx2 s1 t1
          go_wp2
          go_ret
          exact ⟨⟨some ad, c, by rw [← hnh.out]; rfl, by have := hnh.out; omega, hC0.out⟩, Below.refl _ _⟩
        case neg =>
          have hRr := Lib.hid (show R = T ++ [x] ++ D by rw [hR.out]; exact if_neg (fun h => hyx2 (by rw [hy]; exact h.2)))
          have hyb : (y == x) = false := beq_eq_false_iff_ne.mpr hyx2
          have hyd : decide (y < x) = false := decide_eq_false hyx
          clear hst hy hyx2 hR
          have hB0 := Lib.hid (show Below wr.heap.size wr wr.drew from (Below.refl _ _).drew)
          have hBl := Lib.hid (show Below wr.heap.size wr (wr.drew.alloc (.cells #[.int .i64 x] 3)) from ((Below.refl _ _).drew).alloc (Nat.le_refl _) _)
          have hTd := Lib.hid (hT.out _ hB0.out)
          have hTa := Lib.hid (hT.out _ hBl.out)
          have hsz := Lib.hid (show wr.heap.size + 1 = (wr.drew.alloc (.cells #[.int .i64 x] 3)).heap.size by rw [World.size_alloc]; rfl)
          go_wp2
          go_region_law (first
            | (refine app_all_step (W := wr.drew) (w0 := wr) wr.heap.size (by rfl) _ _ (by rfl) (.slice none 0 0) [] T (some ad) K c rfl rfl (Kd.R_nil _ _ _ _ _) hTd.out hB0.out hB0.out.size (by simp only [List.length_nil]; omega) ?_; intro v1 w1 a1 a2 a3; have hI1 := Lib.hid (show Ints w1 wr.heap.size v1 T from a1); have hB1 := Lib.hid a2; clear a1 a2 a3)
            | (refine app_all_step (W := wr.drew.alloc (.cells #[.int .i64 x] 3)) (w0 := wr.drew.alloc (.cells #[.int .i64 x] 3)) (wr.heap.size + 1) (by rfl) _ _ (by rfl) (.slice none 0 0) [] T (some ad) K c rfl rfl (Kd.R_nil _ _ _ _ _) hTa.out (Below.refl _ _) (Nat.le_of_eq hsz.out) (by simp only [List.length_nil]; omega) ?_; intro v1 w1 a1 a2 a3; have hI1 := Lib.hid (show Ints w1 wr.heap.size v1 T from Kd.R_lower a1 (Nat.le_succ _)); have hL1 := Lib.hid (lit_read (W := wr.drew) a2); have hB1 := Lib.hid (hBl.out.trans (a2.mono (Nat.le_succ _))); clear a1 a2 a3)
            | (refine app_all_step (W := w1.alloc (.cells #[.int .i64 x] 3)) (w0 := wr) wr.heap.size (by rfl) _ _ (by rfl) v1 T [x] (some ⟨w1.heap.size, 0, none⟩) 1 1 rfl rfl (Kd.R_alloc hI1.out _) (lit_read (Below.refl _ _)) (hB1.out.alloc hB1.out.size _) (by rw [World.size_alloc]; exact Nat.le_trans hB1.out.size (Nat.le_succ _)) (by rw [hTl.out]; omega) ?_; intro v2 w2 b1 b2 b3; replace b1 := Lib.hid b1; have hB2 := Lib.hid b2; clear b2 b3)
            | (refine app_all_step (W := w1) (w0 := wr) wr.heap.size (by rfl) _ _ (by rfl) v1 T [x] (some ⟨wr.heap.size, 0, none⟩) 1 1 rfl rfl hI1.out hL1.out hB1.out hB1.out.size (by rw [hTl.out]; omega) ?_; intro v2 w2 b1 b2 b3; replace b1 := Lib.hid b1; have hB2 := Lib.hid b2; clear b2 b3)
            | (refine app_all_step (W := w2) (w0 := wr) wr.heap.size (by rfl) _ _ (by rfl) v2 (T ++ [x]) D A2 (n - K) (c - K) rfl rfl b1.out (hD.out _ hB2.out) hB2.out hB2.out.size (by rw [List.length_append, List.length_singleton, hTl.out]; omega) ?_; intro v3 w3 c1 c2 c3; replace c1 := Lib.hid c1; replace c2 := Lib.hid c2; clear c3))
          all_goals
            go_wp2
            go_ret
            exact ⟨by have h9 := c1.out.gotV; rw [hRr.out]; exact h9, c2.out⟩
    case neg =>
      obtain rfl : k = n := by omega
      have hKn : K = k := by
        have h9 := hKk.out
        rw [List.drop_of_length_le (by have := hnh.out; omega)] at h9
        exact h9
      subst hKn
      have hRr := Lib.hid (show R = T ++ [x] ++ D by rw [hR.out]; exact if_neg (fun h => by have := h.1; have := hnh.out; omega))
      have hlt2 : decide ((K : Int) < (K : Int)) = false := decide_eq_false (by omega)
      simp only [Nat.sub_self] at hD
      clear hR
      have hB0 := Lib.hid (show Below wr.heap.size wr wr.drew from (Below.refl _ _).drew)
      have hBl := Lib.hid (show Below wr.heap.size wr (wr.drew.alloc (.cells #[.int .i64 x] 3)) from ((Below.refl _ _).drew).alloc (Nat.le_refl _) _)
      have hTd := Lib.hid (hT.out _ hB0.out)
      have hTa := Lib.hid (hT.out _ hBl.out)
      have hsz := Lib.hid (show wr.heap.size + 1 = (wr.drew.alloc (.cells #[.int .i64 x] 3)).heap.size by rw [World.size_alloc]; rfl)
      go_wp2
      go_region_law (first
        | (refine app_all_step (W := wr.drew) (w0 := wr) wr.heap.size (by rfl) _ _ (by rfl) (.slice none 0 0) [] T A K c rfl rfl (Kd.R_nil _ _ _ _ _) hTd.out hB0.out hB0.out.size (by simp only [List.length_nil]; omega) ?_; intro v1 w1 a1 a2 a3; have hI1 := Lib.hid (show Ints w1 wr.heap.size v1 T from a1); have hB1 := Lib.hid a2; clear a1 a2 a3)
        | (refine app_all_step (W := wr.drew.alloc (.cells #[.int .i64 x] 3)) (w0 := wr.drew.alloc (.cells #[.int .i64 x] 3)) (wr.heap.size + 1) (by rfl) _ _ (by rfl) (.slice none 0 0) [] T A K c rfl rfl (Kd.R_nil _ _ _ _ _) hTa.out (Below.refl _ _) (Nat.le_of_eq hsz.out) (by simp only [List.length_nil]; omega) ?_; intro v1 w1 a1 a2 a3; have hI1 := Lib.hid (show Ints w1 wr.heap.size v1 T from Kd.R_lower a1 (Nat.le_succ _)); have hL1 := Lib.hid (lit_read (W := wr.drew) a2); have hB1 := Lib.hid (hBl.out.trans (a2.mono (Nat.le_succ _))); clear a1 a2 a3)
        | (refine app_all_step (W := w1.alloc (.cells #[.int .i64 x] 3)) (w0 := wr) wr.heap.size (by rfl) _ _ (by rfl) v1 T [x] (some ⟨w1.heap.size, 0, none⟩) 1 1 rfl rfl (Kd.R_alloc hI1.out _) (lit_read (Below.refl _ _)) (hB1.out.alloc hB1.out.size _) (by rw [World.size_alloc]; exact Nat.le_trans hB1.out.size (Nat.le_succ _)) (by rw [hTl.out]; omega) ?_; intro v2 w2 b1 b2 b3; replace b1 := Lib.hid b1; have hB2 := Lib.hid b2; clear b2 b3)
        | (refine app_all_step (W := w1) (w0 := wr) wr.heap.size (by rfl) _ _ (by rfl) v1 T [x] (some ⟨wr.heap.size, 0, none⟩) 1 1 rfl rfl hI1.out hL1.out hB1.out hB1.out.size (by rw [hTl.out]; omega) ?_; intro v2 w2 b1 b2 b3; replace b1 := Lib.hid b1; have hB2 := Lib.hid b2; clear b2 b3)
        | (refine app_all_step (W := w2) (w0 := wr) wr.heap.size (by rfl) _ _ (by rfl) v2 (T ++ [x]) D A2 0 (c - K) rfl rfl b1.out (hD.out _ hB2.out) hB2.out hB2.out.size (by rw [List.length_append, List.length_singleton, hTl.out]; omega) ?_; intro v3 w3 c1 c2 c3; replace c1 := Lib.hid c1; replace c2 := Lib.hid c2; clear c3))
      all_goals
        go_wp2
        go_ret
        exact ⟨by have h9 := c1.out.gotV; rw [hRr.out]; exact h9, c2.out⟩
end Go.Proofs.YtbfedeedicnedaaGreat
end
