/-
  Texts of this claim: ShW11.
-/
import Derived.Test.YtbfedeedicnedaaGreatSj41
import Derived.Test.YtbfedeedicnedaaGreatSj42
import Derived.Test.YtbfedeedicnedaaGreatSj45
set_option linter.unusedVariables false
set_option linter.unusedSimpArgs false
set_option maxHeartbeats 8000000
set_option maxRecDepth 100000
section
namespace Go.Proofs.YtbfedeedicnedaaGreat
open Go.RowKit
open Go.Proofs.YtbfedeedicnedaaGreatW.PrintWords
theorem works11_ok {w w30 : World} {cd : Code} (hcd : wafter 11 = cd) {a0 a1 a2 a3 a4 a5 a6 a7 a8 a9 a10 a12 a13 a14 a15 a16 a17 a18 a19 a20 a21 a22 a23 a24 a25 a26 a27 a28 a29 a30 a31 a32 a33 a34 a35 a36 a37 a38 a39 a40 a41 a42 a43 a44 a45 a46 a47 a48 a49 a50 a51 a52 a53 a54 a55 a56 a57 a58 a59 a60 a61 a62 a63 a64 a65 a66 a67 a68 a69 a70 a71 a72 a73 a74 a75 a76 a77 a78 a79 a80 a81 a82 a83 a84 a85 a86 a87 a88 a89 a90 a91 a92 a93 a94 a95 a96 a97 a98 a99 a100 a101 a102 a103 a104 a105 a106 a107 a108 a109 a110 a111 a112 a113 a114 a115 a116 a117 a118 a119 a120 a121 a122 a123 a124 a125 a126 a127 a128 a129 a130 a131 a132 a133 a134 a135 a136 a137 a138 a139 a140 a141 a142 a143 a144 a145 a146 a147 a148 a149 a150 a151 a152 a153 a154 a155 a156 a157 a158 a159 a160 a161 a162 a163 a164 a165 a166 a167 a168 a169 a170 a171 a172 a173 a174 a175 a176 a177 a178 a179 a180 a181 a182 a183 a184 a185 a186 a187 a188 a189 a190 a191 a192 a193 a194 a195 a196 a197 a198 a199 a200 a201 a202 a203 a204 a205 a206 a207 a208 a209 a210 a211 a212 a213 a214 a215 a216 a217 a218 a219 a220 a221 a222 a223 a224 a225 a226 a227 a228 a229 a230 a231 a232 a233 a234 a235 a236 a237 a238 a239 a240 a241 a242 a243 a244 a245 a246 a247 a248 a249 a250 a251 a252 a253 a254 a255 a256 a257 a258 a259 a260 a261 a262 a263 a264 a265 a266 a267 a268 a269 a270 a271 a272 a273 a274 : Value} {g11 : Nat} {r20 : Int} (B_30 : Below w.heap.size w w30) (hgw11 : w.heap.size ≤ g11)
    (X11_30 : w30.heap[g11]? = some (.cells #[.int .i64 1, .int .i64 r20, .int .i64 2] 25 (0, 0))) :
    cd.wp Tryz.prog (bodyPost Tryz.prog Tryz.f15 fun e w' => e = .returned (.bool true) ∧ Below w.heap.size w w') ⟨(a0 :: a1 :: a2 :: a3 :: a4 :: a5 :: a6 :: a7 :: a8 :: a9 :: a10 :: .pointer (some ⟨g11, 0, none⟩) :: a12 :: a13 :: a14 :: a15 :: a16 :: a17 :: a18 :: a19 :: a20 :: a21 :: a22 :: a23 :: a24 :: a25 :: a26 :: a27 :: a28 :: a29 :: a30 :: a31 :: a32 :: a33 :: a34 :: a35 :: a36 :: a37 :: a38 :: a39 :: a40 :: a41 :: a42 :: a43 :: a44 :: a45 :: a46 :: a47 :: a48 :: a49 :: a50 :: a51 :: a52 :: a53 :: a54 :: a55 :: a56 :: a57 :: a58 :: a59 :: a60 :: a61 :: a62 :: a63 :: a64 :: a65 :: a66 :: a67 :: a68 :: a69 :: a70 :: a71 :: a72 :: a73 :: a74 :: a75 :: a76 :: a77 :: a78 :: a79 :: a80 :: a81 :: a82 :: a83 :: a84 :: a85 :: a86 :: a87 :: a88 :: a89 :: a90 :: a91 :: a92 :: a93 :: a94 :: a95 :: a96 :: a97 :: a98 :: a99 :: a100 :: a101 :: a102 :: a103 :: a104 :: a105 :: a106 :: a107 :: a108 :: a109 :: a110 :: a111 :: a112 :: a113 :: a114 :: a115 :: a116 :: a117 :: a118 :: a119 :: a120 :: a121 :: a122 :: a123 :: a124 :: a125 :: a126 :: a127 :: a128 :: a129 :: a130 :: a131 :: a132 :: a133 :: a134 :: a135 :: a136 :: a137 :: a138 :: a139 :: a140 :: a141 :: a142 :: a143 :: a144 :: a145 :: a146 :: a147 :: a148 :: a149 :: a150 :: a151 :: a152 :: a153 :: a154 :: a155 :: a156 :: a157 :: a158 :: a159 :: a160 :: a161 :: a162 :: a163 :: a164 :: a165 :: a166 :: a167 :: a168 :: a169 :: a170 :: a171 :: a172 :: a173 :: a174 :: a175 :: a176 :: a177 :: a178 :: a179 :: a180 :: a181 :: a182 :: a183 :: a184 :: a185 :: a186 :: a187 :: a188 :: a189 :: a190 :: a191 :: a192 :: a193 :: a194 :: a195 :: a196 :: a197 :: a198 :: a199 :: a200 :: a201 :: a202 :: a203 :: a204 :: a205 :: a206 :: a207 :: a208 :: a209 :: a210 :: a211 :: a212 :: a213 :: a214 :: a215 :: a216 :: a217 :: a218 :: a219 :: a220 :: a221 :: a222 :: a223 :: a224 :: a225 :: a226 :: a227 :: a228 :: a229 :: a230 :: a231 :: a232 :: a233 :: a234 :: a235 :: a236 :: a237 :: a238 :: a239 :: a240 :: a241 :: a242 :: a243 :: a244 :: a245 :: a246 :: a247 :: a248 :: a249 :: a250 :: a251 :: a252 :: a253 :: a254 :: a255 :: a256 :: a257 :: a258 :: a259 :: a260 :: a261 :: a262 :: a263 :: a264 :: a265 :: a266 :: a267 :: a268 :: a269 :: a270 :: a271 :: a272 :: a273 :: a274 :: ([] : List Value)).toArray, []⟩ w30 := by
  subst hcd
  replace B_30 := Lib.hid B_30
  replace X11_30 := Lib.hid X11_30
  replace hgw11 := Lib.hid hgw11
  conv => arg 2; whnf
  go_wp2_with fail
  refine (H_calls _).mono ?_
  rintro e w31 ⟨⟨AN, cN, rfl, hcN, hN⟩, hb⟩
  have B_31 := Lib.hid (B_30.out.trans (hb.mono B_30.out.size))
  have X11_31 := Lib.hid (blk_below X11_30.out hb)
  clear hb B_30 X11_30
  have N_31 := Lib.hid hN
  clear hN
  go_wp2_with fail
  refine (list_calls _ _).mono ?_
  rintro e wz ⟨rfl, rfl⟩
  have hl := lit_C w31 [7, 0, 7] #[.int .i64 7, .int .i64 0, .int .i64 7] rfl (by decide)
  obtain ⟨w32, hw32⟩ : ∃ W, W = w31.alloc (.cells #[.int .i64 7, .int .i64 0, .int .i64 7] 3) := ⟨_, rfl⟩
  have hb : Below w31.heap.size w31 w32 := by rw [hw32]; exact (Below.refl _ _).alloc (Nat.le_refl _) _
  have B_32 := Lib.hid (B_31.out.trans (hb.mono B_31.out.size))
  have X11_32 := Lib.hid (blk_below X11_31.out hb)
  have N_32 := Lib.hid (Kd.C_below N_31.out hb)
  clear hb B_31 X11_31 N_31
  rw [← hw32] at hl
  have L_32 := Lib.hid hl
  clear hl
  rw [← hw32]
  clear hw32
  go_wp2_with fail
  refine (made_v (make_ex _ _ _ _ _ N_32.out L_32.out) 2 (by decide)).mono ?_
  rintro e w33 ⟨⟨A30, q30, c30, r30, rfl, h30⟩, hb⟩
  have B_33 := Lib.hid (B_32.out.trans (hb.mono B_32.out.size))
  have X11_33 := Lib.hid (blk_below X11_32.out hb)
  have N_33 := Lib.hid (Kd.C_below N_32.out hb)
  have L_33 := Lib.hid (Kd.C_below L_32.out hb)
  clear hb B_32 X11_32 N_32 L_32
  have M_33 := Lib.hid h30
  clear h30
  clear N_33
  clear L_33
  obtain ⟨va34, vb34, w34, ⟨sa34, sb34, sc34⟩, ⟨ca34, cb34, cc34⟩, ⟨za34, zb34, zc34⟩, hw34⟩ := store3 X11_33.out 4 r30 2
  have B_34 := Lib.hid (show Below w.heap.size w w34 by rw [hw34]; exact below_setk B_33.out hgw11.out _ _ _)
  have X11_34 := Lib.hid (show w34.heap[g11]? = some (.cells #[.int .i64 4, .int .i64 r30, .int .i64 2] 25 (0, 0)) by rw [hw34]; exact blk_set (blk_set (blk_set X11_33.out 0 (.int .i64 4)) 1 (.int .i64 r30)) 2 (.int .i64 2))
  have M_34 := Lib.hid (M_33.out.set X11_33.out (.int .i64 4) (.int .i64 r30) (.int .i64 2))
  rw [← hw34] at M_34
  clear hw34 B_33 X11_33 M_33
  go_upto_region 14 with fail
  clear sa34 sb34 sc34 ca34 cb34 cc34 za34 zb34 zc34
  go_upto_region 14 with fail
  go_cut [145] (fun sx wx => sx = .bool false ∧ Below w34.heap.size w34 wx)
  case first =>
    have hKK := ‹∀ (a' : Act) (w' : World), Met _ a' w' → _›
    refine reg14_ok ?hcd M_34.out X11_34.out (fun v0 v1 v2 v3 v4 v5 v6 v7 v8 v9 wx hB => hKK _ _ ?_)
    case hcd => kernel_rfl
    go_meet
    exact ⟨rfl, hB⟩
  case rest =>
    obtain ⟨rfl, hb⟩ := hcut
    clear M_34
    revert hb
    revert wc
    intro w35 hb
    have B_35 := Lib.hid (B_34.out.trans (hb.mono B_34.out.size))
    have X11_35 := Lib.hid (blk_below X11_34.out hb)
    clear hb B_34 X11_34
    go_wp2_with fail
    refine (H_calls _).mono ?_
    rintro e w36 ⟨⟨AN, cN, rfl, hcN, hN⟩, hb⟩
    have B_36 := Lib.hid (B_35.out.trans (hb.mono B_35.out.size))
    have X11_36 := Lib.hid (blk_below X11_35.out hb)
    clear hb B_35 X11_35
    have N_36 := Lib.hid hN
    clear hN
    go_wp2_with fail
    refine (T_calls _).mono ?_
    rintro e w37 ⟨rfl, hb⟩
    have B_37 := Lib.hid (B_36.out.trans (hb.mono B_36.out.size))
    have X11_37 := Lib.hid (blk_below X11_36.out hb)
    have N_37 := Lib.hid (Kd.C_below N_36.out hb)
    clear hb B_36 X11_36 N_36
    go_wp2_with fail
    refine (made_v (turn_ex _ _ _ N_37.out) 3 (by decide)).mono ?_
    rintro e w38 ⟨⟨A40, q40, c40, r40, rfl, h40⟩, hb⟩
    have B_38 := Lib.hid (B_37.out.trans (hb.mono B_37.out.size))
    have X11_38 := Lib.hid (blk_below X11_37.out hb)
    have N_38 := Lib.hid (Kd.C_below N_37.out hb)
    clear hb B_37 X11_37 N_37
    have M_38 := Lib.hid h40
    clear h40
    clear N_38
    obtain ⟨va39, vb39, w39, ⟨sa39, sb39, sc39⟩, ⟨ca39, cb39, cc39⟩, ⟨za39, zb39, zc39⟩, hw39⟩ := store3 X11_38.out 2 r40 3
    have B_39 := Lib.hid (show Below w.heap.size w w39 by rw [hw39]; exact below_setk B_38.out hgw11.out _ _ _)
    have X11_39 := Lib.hid (show w39.heap[g11]? = some (.cells #[.int .i64 2, .int .i64 r40, .int .i64 3] 25 (0, 0)) by rw [hw39]; exact blk_set (blk_set (blk_set X11_38.out 0 (.int .i64 2)) 1 (.int .i64 r40)) 2 (.int .i64 3))
    have M_39 := Lib.hid (M_38.out.set X11_38.out (.int .i64 2) (.int .i64 r40) (.int .i64 3))
    rw [← hw39] at M_39
    clear hw39 B_38 X11_38 M_38
    go_upto_region 17 with fail
    clear sa39 sb39 sc39 ca39 cb39 cc39 za39 zb39 zc39
    go_upto_region 17 with fail
    go_cut [163] (fun sx wx => sx = .bool false ∧ Below w39.heap.size w39 wx)
    case first =>
      have hKK := ‹∀ (a' : Act) (w' : World), Met _ a' w' → _›
      refine reg17_ok ?hcd M_39.out X11_39.out (fun v0 v1 v2 v3 v4 v5 v6 v7 v8 v9 wx hB => hKK _ _ ?_)
      case hcd => kernel_rfl
      go_meet
      exact ⟨rfl, hB⟩
    case rest =>
      obtain ⟨rfl, hb⟩ := hcut
      clear M_39
      revert hb
      revert wc
      intro w40 hb
      have B_40 := Lib.hid (B_39.out.trans (hb.mono B_39.out.size))
      have X11_40 := Lib.hid (blk_below X11_39.out hb)
      clear hb B_39 X11_39
      go_step
      go_step
      go_step
      go_step
      go_step
      refine works17_ok ?hcd B_40.out hgw11.out X11_40.out
      case hcd => kernel_rfl
end Go.Proofs.YtbfedeedicnedaaGreat
end
