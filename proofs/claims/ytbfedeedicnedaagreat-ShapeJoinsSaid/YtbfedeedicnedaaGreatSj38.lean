/-
  Texts of this claim: ShJf, ShRg.
-/
import Derived.Test.YtbfedeedicnedaaGreatSj37
set_option linter.unusedVariables false
set_option linter.unusedSimpArgs false
set_option maxHeartbeats 8000000
set_option maxRecDepth 100000
section
namespace Go.Proofs.YtbfedeedicnedaaGreat
open Go.RowKit
open Go.Proofs.YtbfedeedicnedaaGreatW.PrintWords
theorem last_of {l : List Int} {x : Int} {b : Bool} (h : Sh.lastB l x = b) : (l.length = 0 ∧ b = true) ∨ ∃ n, l.length = n + 1 ∧ ∃ y, Sh.gi l n = y ∧ b = decide (y < x) := by
  subst h
  cases l with
  | nil => exact .inl ⟨rfl, rfl⟩
  | cons a l => exact .inr ⟨l.length, rfl, _, rfl, rfl⟩
theorem first_of {l : List Int} {x : Int} {b : Bool} (h : Sh.firstB l x = b) : (l.length = 0 ∧ b = true) ∨ ∃ n, l.length = n + 1 ∧ ∃ y, Sh.gi l 0 = y ∧ b = decide (x < y) := by
  subst h
  cases l with
  | nil => exact .inl ⟨rfl, rfl⟩
  | cons a l => exact .inr ⟨l.length, rfl, _, rfl, rfl⟩
theorem joined_tree (H : Sh.Hp) (fa ra na fb rb nb x : Int) (A : Option Addr) (c : Nat) (w : World) (hC : Nodes w A H) (hc : H.length ≤ c) (hl : H.length ≤ 1000000) (hbig : Small H) (he : Sh.both H fa ra na fb rb nb = 0) (hx : Sh.el x = true) (h3 : H.length ≤ 3000) {l m : List Int} (hla : Sh.elems H fa ra na = some l) (hlb : Sh.elems H fb rb nb = some m) (hfa : fa = 3) (hf : fb = 3) (hll : l.length ≤ 1000000) (hmm : m.length ≤ 1000000) {bl bm : Bool} (hbl : Sh.lastB l x = bl) (hbm : Sh.firstB m x = bm) {r : Int} (hr : r = if bl && bm then 0 else 7) :
    Calls Tryz.prog 48 #[.slice A H.length c, shV fa ra na, .int .i64 x, shV fb rb nb] w fun e w' => e = .returned (.int .i64 r) ∧ Below w.heap.size w w' := by
  obtain ⟨W0, hW0⟩ : ∃ W0, W0 = (w.alloc (.cells #[.int .i64 fa, .int .i64 ra, .int .i64 na] 25)).alloc (.cells #[.int .i64 fb, .int .i64 rb, .int .i64 nb] 25) := ⟨_, rfl⟩
  obtain ⟨hB, h1, h2⟩ := two_shapes w fa ra na fb rb nb
  have hB0 := Lib.hid hB
  have hX1 := Lib.hid h1
  have hX2 := Lib.hid h2
  clear hB h1 h2
  rw [← hW0] at hB0 hX1 hX2
  have hBw := Lib.hid (fun W (hW : Below W0.heap.size W0 W) => (below_step hB0.out hW : Below w.heap.size w W))
  have hbo := Lib.hid (fun W (hW : Below W0.heap.size W0 W) => by have := both_calls H fa ra na fb rb nb A c W (Kd.C_below hC (hBw.out W hW)) hc hl hbig; rw [he] at this; exact this)
  subst hfa
  have hin := Lib.hid (fun W => in_calls x 0 1023 (b := true) hx W)
  subst hf
  replace hr := Lib.hid hr
  replace hbl := Lib.hid (last_of hbl)
  replace hbm := Lib.hid (first_of hbm)
  have hea := Lib.hid (fun W (hW : Below W0.heap.size W0 W) => relems_of (c := c) (Kd.C_below hC (hBw.out W hW)) hc hl hbig h3 hla)
  have heb := Lib.hid (fun W (hW : Below W0.heap.size W0 W) => relems_of (c := c) (Kd.C_below hC (hBw.out W hW)) hc hl hbig h3 hlb)
  generalize l.length = p at *
  generalize m.length = q at *
  obtain ⟨c0, c1, c2⟩ := shape_cells hX1.out (Below.refl W0.heap.size W0)
  obtain ⟨d0, d1, d2⟩ := shape_cells hX2.out (Below.refl W0.heap.size W0)
  rw [hW0] at c0 c1 c2 d0 d1 d2
  clear hC he
  go_enter Tryz.func48, Tryz.ntmps48
  go_wp2_with fail
  rw [← hW0]
  rw [← hW0] at c0 c1 c2 d0 d1 d2
  clear hW0
  refine (hbo.out _ (Below.refl _ _)).mono ?_
  rintro e w1 ⟨rfl, hb⟩
  have hB1 := Lib.hid hb
  obtain ⟨q0, q1, q2⟩ := shape_cells hX1.out hB1.out
  obtain ⟨r0, r1, r2⟩ := shape_cells hX2.out hB1.out
  clear hb c0 c1 c2 d0 d1 d2
  go_wp2_with fail
  refine (hin.out _).mono ?_
  rintro e w2 ⟨rfl, rfl⟩
  go_wp2_with fail
  refine (hea.out _ hB1.out).mono ?_
  rintro e w3 ⟨⟨A5, c5, rfl, hc5, hC5⟩, hb⟩
  have hB2 := Lib.hid (below_step hB1.out hb)
  obtain ⟨s0, s1, s2⟩ := shape_cells hX2.out hB2.out
  replace hc5 := Lib.hid hc5
  replace hC5 := Lib.hid hC5
  clear hb q0 q1 q2 r0 r1 r2
  go_wp2_with fail
  refine (heb.out _ hB2.out).mono ?_
  rintro e w4 ⟨⟨A6, c6, rfl, hc6, hC6⟩, hb⟩
  have hB3 := Lib.hid (below_step hB2.out hb)
  obtain ⟨u0, u1, u2⟩ := shape_cells hX1.out hB3.out
  obtain ⟨v0, v1, v2⟩ := shape_cells hX2.out hB3.out
  replace hC5 := Lib.hid (Kd.C_below hC5.out hb)
  replace hc6 := Lib.hid hc6
  replace hC6 := Lib.hid hC6
  clear hb s0 s1 s2
  have hBe := Lib.hid (hBw.out _ hB3.out)
  rcases hbl.out with ⟨rfl, rfl⟩ | ⟨n1, rfl, y, e2, rfl⟩
  · rcases hbm.out with ⟨rfl, rfl⟩ | ⟨n2, rfl, z, f2, rfl⟩
    · go_wp2
      go_ret
      exact ⟨by rw [hr.out]; simp [*], hBe.out⟩
    · obtain ⟨ad, rfl, k0⟩ := at_zero hC6.out (by omega)
      rw [f2] at k0
      have hz1 : 0 < n2 + 1 := by omega
      have hz2 : decide (0 < ((n2 + 1 : Nat) : Int)) = true := decide_eq_true (by omega)
      have hz3 : decide (0 < n2 + 1) = true := decide_eq_true (by omega)
      by_cases hz : x < z
      · have hz4 : decide (z ≤ x) = false := decide_eq_false (by omega)
        go_wp2
        go_ret
        exact ⟨by rw [hr.out]; simp [*], hBe.out⟩
      · have hz4 : decide (z ≤ x) = true := decide_eq_true (by omega)
        go_wp2
        go_ret
        exact ⟨by rw [hr.out]; simp [*], hBe.out⟩
  · obtain ⟨ad1, rfl, k1⟩ := at_int hC5.out n1 (by omega) (by omega)
    rw [Int.toNat_natCast, e2] at k1
    have hy1 : n1 < n1 + 1 := by omega
    have hy2 : decide (0 < ((n1 + 1 : Nat) : Int)) = true := decide_eq_true (by omega)
    have hy3 : IntKind.i64.wrap (((n1 + 1 : Nat) : Int) - 1) = n1 := by rw [IntWalk.i64_in _ (by omega)]; omega
    by_cases hy : y < x
    · have hy4 : decide (x ≤ y) = false := decide_eq_false (by omega)
      rcases hbm.out with ⟨rfl, rfl⟩ | ⟨n2, rfl, z, f2, rfl⟩
      · go_wp2
        go_ret
        exact ⟨by rw [hr.out]; simp [*], hBe.out⟩
      · obtain ⟨ad, rfl, k0⟩ := at_zero hC6.out (by omega)
        rw [f2] at k0
        have hz1 : 0 < n2 + 1 := by omega
        have hz2 : decide (0 < ((n2 + 1 : Nat) : Int)) = true := decide_eq_true (by omega)
        have hz3 : decide (0 < n2 + 1) = true := decide_eq_true (by omega)
        by_cases hz : x < z
        · have hz4 : decide (z ≤ x) = false := decide_eq_false (by omega)
          go_wp2
          go_ret
          exact ⟨by rw [hr.out]; simp [*], hBe.out⟩
        · have hz4 : decide (z ≤ x) = true := decide_eq_true (by omega)
          go_wp2
          go_ret
          exact ⟨by rw [hr.out]; simp [*], hBe.out⟩
    · have hy4 : decide (x ≤ y) = true := decide_eq_true (by omega)
      go_wp2
      go_ret
      exact ⟨by rw [hr.out, decide_eq_false (show ¬ y < x by omega)]; rfl, hBe.out⟩
end Go.Proofs.YtbfedeedicnedaaGreat
end
section
namespace Go.Proofs.YtbfedeedicnedaaGreat
open Go.RowKit
def regionOf (n : Nat) : Code → Option Code
  | .region id ops d => if id = n then some (.region id ops d) else none
  | .seq a b => match regionOf n a with
    | some c => some c
    | none => regionOf n b
  | .cond _ a b => match regionOf n a with
    | some c => some c
    | none => regionOf n b
  | .block _ c => regionOf n c
  | .scope c => regionOf n c
  | .loop c => regionOf n c
  | _ => none
noncomputable def wreg (n : Nat) : Code := (Tryz.f15.body.bind (regionOf n)).getD .skip
def afterStmt (n : Nat) : Code → Option Code
  | .seq a b => if (regionOf n a).isSome then some b else afterStmt n b
  | _ => none
noncomputable def wafter (n : Nat) : Code := (Tryz.f15.body.bind (afterStmt n)).getD .skip
end Go.Proofs.YtbfedeedicnedaaGreat
end
