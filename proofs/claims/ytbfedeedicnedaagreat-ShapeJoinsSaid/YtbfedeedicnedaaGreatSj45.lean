/-
  Texts of this claim: ShW17.
-/
import Derived.Test.YtbfedeedicnedaaGreatSj43
import Derived.Test.YtbfedeedicnedaaGreatSj44
set_option linter.unusedVariables false
set_option linter.unusedSimpArgs false
set_option maxHeartbeats 8000000
set_option maxRecDepth 100000
section
namespace Go.Proofs.YtbfedeedicnedaaGreat
open Go.RowKit
open Go.Proofs.YtbfedeedicnedaaGreatW.PrintWords
theorem works17_ok {w w40 : World} {cd : Code} (hcd : wafter 17 = cd) {a0 a1 a2 a3 a4 a5 a6 a7 a8 a9 a10 a12 a13 a14 a15 a16 a17 a18 a19 a20 a21 a22 a23 a24 a25 a26 a27 a28 a29 a30 a31 a32 a33 a34 a35 a36 a37 a38 a39 a40 a41 a42 a43 a44 a45 a46 a47 a48 a49 a50 a51 a52 a53 a54 a55 a56 a57 a58 a59 a60 a61 a62 a63 a64 a65 a66 a67 a68 a69 a70 a71 a72 a73 a74 a75 a76 a77 a78 a79 a80 a81 a82 a83 a84 a85 a86 a87 a88 a89 a90 a91 a92 a93 a94 a95 a96 a97 a98 a99 a100 a101 a102 a103 a104 a105 a106 a107 a108 a109 a110 a111 a112 a113 a114 a115 a116 a117 a118 a119 a120 a121 a122 a123 a124 a125 a126 a127 a128 a129 a130 a131 a132 a133 a134 a135 a136 a137 a138 a139 a140 a141 a142 a143 a144 a145 a146 a147 a148 a149 a150 a151 a152 a153 a154 a155 a156 a157 a158 a159 a160 a161 a162 a163 a164 a165 a166 a167 a168 a169 a170 a171 a172 a173 a174 a175 a176 a177 a178 a179 a180 a181 a182 a183 a184 a185 a186 a187 a188 a189 a190 a191 a192 a193 a194 a195 a196 a197 a198 a199 a200 a201 a202 a203 a204 a205 a206 a207 a208 a209 a210 a211 a212 a213 a214 a215 a216 a217 a218 a219 a220 a221 a222 a223 a224 a225 a226 a227 a228 a229 a230 a231 a232 a233 a234 a235 a236 a237 a238 a239 a240 a241 a242 a243 a244 a245 a246 a247 a248 a249 a250 a251 a252 a253 a254 a255 a256 a257 a258 a259 a260 a261 a262 a263 a264 a265 a266 a267 a268 a269 a270 a271 a272 a273 a274 : Value} {g11 : Nat} {r40 : Int} (B_40 : Below w.heap.size w w40) (hgw11 : w.heap.size ≤ g11)
    (X11_40 : w40.heap[g11]? = some (.cells #[.int .i64 2, .int .i64 r40, .int .i64 3] 25 (0, 0))) :
    cd.wp Tryz.prog (bodyPost Tryz.prog Tryz.f15 fun e w' => e = .returned (.bool true) ∧ Below w.heap.size w w') ⟨(a0 :: a1 :: a2 :: a3 :: a4 :: a5 :: a6 :: a7 :: a8 :: a9 :: a10 :: .pointer (some ⟨g11, 0, none⟩) :: a12 :: a13 :: a14 :: a15 :: a16 :: a17 :: a18 :: a19 :: a20 :: a21 :: a22 :: a23 :: a24 :: a25 :: a26 :: a27 :: a28 :: a29 :: a30 :: a31 :: a32 :: a33 :: a34 :: a35 :: a36 :: a37 :: a38 :: a39 :: a40 :: a41 :: a42 :: a43 :: a44 :: a45 :: a46 :: a47 :: a48 :: a49 :: a50 :: a51 :: a52 :: a53 :: a54 :: a55 :: a56 :: a57 :: a58 :: a59 :: a60 :: a61 :: a62 :: a63 :: a64 :: a65 :: a66 :: a67 :: a68 :: a69 :: a70 :: a71 :: a72 :: a73 :: a74 :: a75 :: a76 :: a77 :: a78 :: a79 :: a80 :: a81 :: a82 :: a83 :: a84 :: a85 :: a86 :: a87 :: a88 :: a89 :: a90 :: a91 :: a92 :: a93 :: a94 :: a95 :: a96 :: a97 :: a98 :: a99 :: a100 :: a101 :: a102 :: a103 :: a104 :: a105 :: a106 :: a107 :: a108 :: a109 :: a110 :: a111 :: a112 :: a113 :: a114 :: a115 :: a116 :: a117 :: a118 :: a119 :: a120 :: a121 :: a122 :: a123 :: a124 :: a125 :: a126 :: a127 :: a128 :: a129 :: a130 :: a131 :: a132 :: a133 :: a134 :: a135 :: a136 :: a137 :: a138 :: a139 :: a140 :: a141 :: a142 :: a143 :: a144 :: a145 :: a146 :: a147 :: a148 :: a149 :: a150 :: a151 :: a152 :: a153 :: a154 :: a155 :: a156 :: a157 :: a158 :: a159 :: a160 :: a161 :: a162 :: a163 :: a164 :: a165 :: a166 :: a167 :: a168 :: a169 :: a170 :: a171 :: a172 :: a173 :: a174 :: a175 :: a176 :: a177 :: a178 :: a179 :: a180 :: a181 :: a182 :: a183 :: a184 :: a185 :: a186 :: a187 :: a188 :: a189 :: a190 :: a191 :: a192 :: a193 :: a194 :: a195 :: a196 :: a197 :: a198 :: a199 :: a200 :: a201 :: a202 :: a203 :: a204 :: a205 :: a206 :: a207 :: a208 :: a209 :: a210 :: a211 :: a212 :: a213 :: a214 :: a215 :: a216 :: a217 :: a218 :: a219 :: a220 :: a221 :: a222 :: a223 :: a224 :: a225 :: a226 :: a227 :: a228 :: a229 :: a230 :: a231 :: a232 :: a233 :: a234 :: a235 :: a236 :: a237 :: a238 :: a239 :: a240 :: a241 :: a242 :: a243 :: a244 :: a245 :: a246 :: a247 :: a248 :: a249 :: a250 :: a251 :: a252 :: a253 :: a254 :: a255 :: a256 :: a257 :: a258 :: a259 :: a260 :: a261 :: a262 :: a263 :: a264 :: a265 :: a266 :: a267 :: a268 :: a269 :: a270 :: a271 :: a272 :: a273 :: a274 :: ([] : List Value)).toArray, []⟩ w40 := by
  subst hcd
  replace B_40 := Lib.hid B_40
  replace X11_40 := Lib.hid X11_40
  replace hgw11 := Lib.hid hgw11
  conv => arg 2; whnf
  go_wp2_with fail
  refine (H_calls _).mono ?_
  rintro e w41 ⟨⟨AN, cN, rfl, hcN, hN⟩, hb⟩
  have B_41 := Lib.hid (B_40.out.trans (hb.mono B_40.out.size))
  have X11_41 := Lib.hid (blk_below X11_40.out hb)
  clear hb B_40 X11_40
  have N_41 := Lib.hid hN
  clear hN
  go_wp2_with fail
  refine (A_calls _).mono ?_
  rintro e w42 ⟨rfl, hb⟩
  have B_42 := Lib.hid (B_41.out.trans (hb.mono B_41.out.size))
  have X11_42 := Lib.hid (blk_below X11_41.out hb)
  have N_42 := Lib.hid (Kd.C_below N_41.out hb)
  clear hb B_41 X11_41 N_41
  go_wp2_with fail
  refine (S_calls _).mono ?_
  rintro e w43 ⟨rfl, hb⟩
  have B_43 := Lib.hid (B_42.out.trans (hb.mono B_42.out.size))
  have X11_43 := Lib.hid (blk_below X11_42.out hb)
  have N_43 := Lib.hid (Kd.C_below N_42.out hb)
  clear hb B_42 X11_42 N_42
  go_wp2_with fail
  refine (made_v (union_ex _ _ _ N_43.out) 4 (by decide)).mono ?_
  rintro e w44 ⟨⟨A50, q50, c50, r50, rfl, h50⟩, hb⟩
  have B_44 := Lib.hid (B_43.out.trans (hb.mono B_43.out.size))
  have X11_44 := Lib.hid (blk_below X11_43.out hb)
  have N_44 := Lib.hid (Kd.C_below N_43.out hb)
  clear hb B_43 X11_43 N_43
  have Ma_44 := Lib.hid h50
  clear h50
  clear N_44
  obtain ⟨va45, vb45, w45, ⟨sa45, sb45, sc45⟩, ⟨ca45, cb45, cc45⟩, ⟨za45, zb45, zc45⟩, hw45⟩ := store3 X11_44.out 1 r50 4
  have B_45 := Lib.hid (show Below w.heap.size w w45 by rw [hw45]; exact below_setk B_44.out hgw11.out _ _ _)
  have X11_45 := Lib.hid (show w45.heap[g11]? = some (.cells #[.int .i64 1, .int .i64 r50, .int .i64 4] 25 (0, 0)) by rw [hw45]; exact blk_set (blk_set (blk_set X11_44.out 0 (.int .i64 1)) 1 (.int .i64 r50)) 2 (.int .i64 4))
  have Ma_45 := Lib.hid (Ma_44.out.set X11_44.out (.int .i64 1) (.int .i64 r50) (.int .i64 4))
  rw [← hw45] at Ma_45
  clear hw45 B_44 X11_44 Ma_44
  go_upto_region 20 with fail
  clear sa45 sb45 sc45 ca45 cb45 cc45 za45 zb45 zc45
  go_wp2_with fail
  refine (H_calls _).mono ?_
  rintro e w46 ⟨⟨AN, cN, rfl, hcN, hN⟩, hb⟩
  have B_46 := Lib.hid (B_45.out.trans (hb.mono B_45.out.size))
  have X11_46 := Lib.hid (blk_below X11_45.out hb)
  have Ma_46 := Lib.hid (Ma_45.out.below hb)
  clear hb B_45 X11_45 Ma_45
  have N_46 := Lib.hid hN
  clear hN
  go_wp2_with fail
  refine (A_calls _).mono ?_
  rintro e w47 ⟨rfl, hb⟩
  have B_47 := Lib.hid (B_46.out.trans (hb.mono B_46.out.size))
  have X11_47 := Lib.hid (blk_below X11_46.out hb)
  have Ma_47 := Lib.hid (Ma_46.out.below hb)
  have N_47 := Lib.hid (Kd.C_below N_46.out hb)
  clear hb B_46 X11_46 Ma_46 N_46
  go_wp2_with fail
  refine (S_calls _).mono ?_
  rintro e w48 ⟨rfl, hb⟩
  have B_48 := Lib.hid (B_47.out.trans (hb.mono B_47.out.size))
  have X11_48 := Lib.hid (blk_below X11_47.out hb)
  have Ma_48 := Lib.hid (Ma_47.out.below hb)
  have N_48 := Lib.hid (Kd.C_below N_47.out hb)
  clear hb B_47 X11_47 Ma_47 N_47
  go_wp2_with fail
  refine (made_v (meet_ex _ _ _ N_48.out) 1 (by decide)).mono ?_
  rintro e w49 ⟨⟨A60, q60, c60, r60, rfl, h60⟩, hb⟩
  have B_49 := Lib.hid (B_48.out.trans (hb.mono B_48.out.size))
  have X11_49 := Lib.hid (blk_below X11_48.out hb)
  have Ma_49 := Lib.hid (Ma_48.out.below hb)
  have N_49 := Lib.hid (Kd.C_below N_48.out hb)
  clear hb B_48 X11_48 Ma_48 N_48
  have Mb_49 := Lib.hid h60
  clear h60
  clear N_49
  go_upto_region 21 with fail
  have hgw13 := Lib.hid (B_49.out.size)
  have hlt11_13 := Lib.hid (blk_lt X11_49.out)
  obtain ⟨w50, hw50⟩ : ∃ W, W = w49.alloc (.cells #[.int .i64 1, .int .i64 r60, .int .i64 1] 25) := ⟨_, rfl⟩
  have hb : Below w49.heap.size w49 w50 := by rw [hw50]; exact (Below.refl _ _).alloc (Nat.le_refl _) _
  have B_50 := Lib.hid (B_49.out.trans (hb.mono B_49.out.size))
  have X11_50 := Lib.hid (blk_below X11_49.out hb)
  have Ma_50 := Lib.hid (Ma_49.out.below hb)
  have Mb_50 := Lib.hid (Mb_49.out.below hb)
  clear hb B_49 X11_49 Ma_49 Mb_49
  have X13_50 := Lib.hid (show w50.heap[w49.heap.size]? = some (.cells #[.int .i64 1, .int .i64 r60, .int .i64 1] 25 (0, 0)) by rw [hw50]; exact heap_alloc_new _ _)
  rw [← hw50]
  clear hw50
  obtain ⟨g13, hg13⟩ : ∃ g, g = w49.heap.size := ⟨_, rfl⟩
  rw [← hg13] at X13_50 hgw13 hlt11_13 ⊢
  clear hg13
  go_wp2_with fail
  refine (H_calls _).mono ?_
  rintro e w51 ⟨⟨AN, cN, rfl, hcN, hN⟩, hb⟩
  have B_51 := Lib.hid (B_50.out.trans (hb.mono B_50.out.size))
  have X11_51 := Lib.hid (blk_below X11_50.out hb)
  have Ma_51 := Lib.hid (Ma_50.out.below hb)
  have Mb_51 := Lib.hid (Mb_50.out.below hb)
  have X13_51 := Lib.hid (blk_below X13_50.out hb)
  clear hb B_50 X11_50 Ma_50 Mb_50 X13_50
  have N_51 := Lib.hid hN
  clear hN
  go_wp2_with fail
  refine (T_calls _).mono ?_
  rintro e w52 ⟨rfl, hb⟩
  have B_52 := Lib.hid (B_51.out.trans (hb.mono B_51.out.size))
  have X11_52 := Lib.hid (blk_below X11_51.out hb)
  have Ma_52 := Lib.hid (Ma_51.out.below hb)
  have Mb_52 := Lib.hid (Mb_51.out.below hb)
  have X13_52 := Lib.hid (blk_below X13_51.out hb)
  have N_52 := Lib.hid (Kd.C_below N_51.out hb)
  clear hb B_51 X11_51 Ma_51 Mb_51 X13_51 N_51
  go_wp2_with fail
  refine (S_calls _).mono ?_
  rintro e w53 ⟨rfl, hb⟩
  have B_53 := Lib.hid (B_52.out.trans (hb.mono B_52.out.size))
  have X11_53 := Lib.hid (blk_below X11_52.out hb)
  have Ma_53 := Lib.hid (Ma_52.out.below hb)
  have Mb_53 := Lib.hid (Mb_52.out.below hb)
  have X13_53 := Lib.hid (blk_below X13_52.out hb)
  have N_53 := Lib.hid (Kd.C_below N_52.out hb)
  clear hb B_52 X11_52 Ma_52 Mb_52 X13_52 N_52
  go_wp2_with fail
  refine (made_v (minus_ex _ _ _ N_53.out) 2 (by decide)).mono ?_
  rintro e w54 ⟨⟨A70, q70, c70, r70, rfl, h70⟩, hb⟩
  have B_54 := Lib.hid (B_53.out.trans (hb.mono B_53.out.size))
  have X11_54 := Lib.hid (blk_below X11_53.out hb)
  have Ma_54 := Lib.hid (Ma_53.out.below hb)
  have Mb_54 := Lib.hid (Mb_53.out.below hb)
  have X13_54 := Lib.hid (blk_below X13_53.out hb)
  have N_54 := Lib.hid (Kd.C_below N_53.out hb)
  clear hb B_53 X11_53 Ma_53 Mb_53 X13_53 N_53
  have Mc_54 := Lib.hid h70
  clear h70
  clear N_54
  go_upto_region 22 with fail
  have hgw15 := Lib.hid (B_54.out.size)
  have hlt11_15 := Lib.hid (blk_lt X11_54.out)
  have hlt13_15 := Lib.hid (blk_lt X13_54.out)
  obtain ⟨w55, hw55⟩ : ∃ W, W = w54.alloc (.cells #[.int .i64 3, .int .i64 r70, .int .i64 2] 25) := ⟨_, rfl⟩
  have hb : Below w54.heap.size w54 w55 := by rw [hw55]; exact (Below.refl _ _).alloc (Nat.le_refl _) _
  have B_55 := Lib.hid (B_54.out.trans (hb.mono B_54.out.size))
  have X11_55 := Lib.hid (blk_below X11_54.out hb)
  have Ma_55 := Lib.hid (Ma_54.out.below hb)
  have Mb_55 := Lib.hid (Mb_54.out.below hb)
  have X13_55 := Lib.hid (blk_below X13_54.out hb)
  have Mc_55 := Lib.hid (Mc_54.out.below hb)
  clear hb B_54 X11_54 Ma_54 Mb_54 X13_54 Mc_54
  have X15_55 := Lib.hid (show w55.heap[w54.heap.size]? = some (.cells #[.int .i64 3, .int .i64 r70, .int .i64 2] 25 (0, 0)) by rw [hw55]; exact heap_alloc_new _ _)
  rw [← hw55]
  clear hw55
  obtain ⟨g15, hg15⟩ : ∃ g, g = w54.heap.size := ⟨_, rfl⟩
  rw [← hg15] at X15_55 hgw15 hlt11_15 hlt13_15 ⊢
  clear hg15
  go_upto_region 22 with fail
  go_cut [224] (fun sx wx => sx = .bool false ∧ Below w55.heap.size w55 wx)
  case first =>
    have hKK := ‹∀ (a' : Act) (w' : World), Met _ a' w' → _›
    refine reg22_ok ?hcd Ma_55.out X11_55.out Mb_55.out X13_55.out Mc_55.out X15_55.out (fun v0 v1 v2 v3 v4 v5 v6 v7 v8 v9 v10 v11 v12 v13 v14 v15 v16 v17 v18 v19 v20 v21 v22 v23 v24 v25 v26 v27 v28 v29 v30 v31 v32 v33 v34 v35 wx hB => hKK _ _ ?_)
    case hcd => kernel_rfl
    go_meet
    exact ⟨rfl, hB⟩
  case rest =>
    obtain ⟨rfl, hb⟩ := hcut
    clear Ma_55
    clear Mb_55
    clear Mc_55
    revert hb
    revert wc
    intro w56 hb
    have B_56 := Lib.hid (B_55.out.trans (hb.mono B_55.out.size))
    have X11_56 := Lib.hid (blk_below X11_55.out hb)
    have X13_56 := Lib.hid (blk_below X13_55.out hb)
    have X15_56 := Lib.hid (blk_below X15_55.out hb)
    clear hb B_55 X11_55 X13_55 X15_55
    go_wp2_with fail
    refine (H_calls _).mono ?_
    rintro e w57 ⟨⟨AN, cN, rfl, hcN, hN⟩, hb⟩
    have B_57 := Lib.hid (B_56.out.trans (hb.mono B_56.out.size))
    have X11_57 := Lib.hid (blk_below X11_56.out hb)
    have X13_57 := Lib.hid (blk_below X13_56.out hb)
    have X15_57 := Lib.hid (blk_below X15_56.out hb)
    clear hb B_56 X11_56 X13_56 X15_56
    have N_57 := Lib.hid hN
    clear hN
    go_wp2_with fail
    refine (T_calls _).mono ?_
    rintro e w58 ⟨rfl, hb⟩
    have B_58 := Lib.hid (B_57.out.trans (hb.mono B_57.out.size))
    have X11_58 := Lib.hid (blk_below X11_57.out hb)
    have X13_58 := Lib.hid (blk_below X13_57.out hb)
    have X15_58 := Lib.hid (blk_below X15_57.out hb)
    have N_58 := Lib.hid (Kd.C_below N_57.out hb)
    clear hb B_57 X11_57 X13_57 X15_57 N_57
    go_wp2_with fail
    refine (split_v _ _ _ N_58.out).mono ?_
    rintro e w59 ⟨⟨A80, q80, c80, r80, r81, rfl, h80, h81⟩, hb⟩
    have B_59 := Lib.hid (B_58.out.trans (hb.mono B_58.out.size))
    have X11_59 := Lib.hid (blk_below X11_58.out hb)
    have X13_59 := Lib.hid (blk_below X13_58.out hb)
    have X15_59 := Lib.hid (blk_below X15_58.out hb)
    have N_59 := Lib.hid (Kd.C_below N_58.out hb)
    clear hb B_58 X11_58 X13_58 X15_58 N_58
    have Ma_59 := Lib.hid h80
    clear h80
    have Mb_59 := Lib.hid h81
    clear h81
    clear N_59
    obtain ⟨va60, vb60, w60, ⟨sa60, sb60, sc60⟩, ⟨ca60, cb60, cc60⟩, ⟨za60, zb60, zc60⟩, hw60⟩ := store3 X11_59.out 3 r80 1
    have B_60 := Lib.hid (show Below w.heap.size w w60 by rw [hw60]; exact below_setk B_59.out hgw11.out _ _ _)
    have X11_60 := Lib.hid (show w60.heap[g11]? = some (.cells #[.int .i64 3, .int .i64 r80, .int .i64 1] 25 (0, 0)) by rw [hw60]; exact blk_set (blk_set (blk_set X11_59.out 0 (.int .i64 3)) 1 (.int .i64 r80)) 2 (.int .i64 1))
    have X13_60 := Lib.hid (show w60.heap[g13]? = some (.cells #[.int .i64 1, .int .i64 r60, .int .i64 1] 25 (0, 0)) by rw [hw60]; exact blk_store3 X13_59.out (by have := hlt11_13.out; omega) _ _ _)
    have X15_60 := Lib.hid (show w60.heap[g15]? = some (.cells #[.int .i64 3, .int .i64 r70, .int .i64 2] 25 (0, 0)) by rw [hw60]; exact blk_store3 X15_59.out (by have := hlt11_15.out; omega) _ _ _)
    have Ma_60 := Lib.hid (Ma_59.out.set X11_59.out (.int .i64 3) (.int .i64 r80) (.int .i64 1))
    rw [← hw60] at Ma_60
    have Mb_60 := Lib.hid (Mb_59.out.set X11_59.out (.int .i64 3) (.int .i64 r80) (.int .i64 1))
    rw [← hw60] at Mb_60
    clear hw60 B_59 X11_59 X13_59 X15_59 Ma_59 Mb_59
    obtain ⟨va61, vb61, w61, ⟨sa61, sb61, sc61⟩, ⟨ca61, cb61, cc61⟩, ⟨za61, zb61, zc61⟩, hw61⟩ := store3 X13_60.out 3 r81 1
    have B_61 := Lib.hid (show Below w.heap.size w w61 by rw [hw61]; exact below_setk B_60.out hgw13.out _ _ _)
    have X11_61 := Lib.hid (show w61.heap[g11]? = some (.cells #[.int .i64 3, .int .i64 r80, .int .i64 1] 25 (0, 0)) by rw [hw61]; exact blk_store3 X11_60.out (by have := hlt11_13.out; omega) _ _ _)
    have X13_61 := Lib.hid (show w61.heap[g13]? = some (.cells #[.int .i64 3, .int .i64 r81, .int .i64 1] 25 (0, 0)) by rw [hw61]; exact blk_set (blk_set (blk_set X13_60.out 0 (.int .i64 3)) 1 (.int .i64 r81)) 2 (.int .i64 1))
    have X15_61 := Lib.hid (show w61.heap[g15]? = some (.cells #[.int .i64 3, .int .i64 r70, .int .i64 2] 25 (0, 0)) by rw [hw61]; exact blk_store3 X15_60.out (by have := hlt13_15.out; omega) _ _ _)
    have Ma_61 := Lib.hid (Ma_60.out.set X13_60.out (.int .i64 3) (.int .i64 r81) (.int .i64 1))
    rw [← hw61] at Ma_61
    have Mb_61 := Lib.hid (Mb_60.out.set X13_60.out (.int .i64 3) (.int .i64 r81) (.int .i64 1))
    rw [← hw61] at Mb_61
    clear hw61 B_60 X11_60 X13_60 X15_60 Ma_60 Mb_60
    go_upto_region 25 with fail
    clear sa60 sb60 sc60 ca60 cb60 cc60 za60 zb60 zc60 sa61 sb61 sc61 ca61 cb61 cc61 za61 zb61 zc61
    go_wp2_with fail
    refine (H_calls _).mono ?_
    rintro e w62 ⟨⟨AN, cN, rfl, hcN, hN⟩, hb⟩
    have B_62 := Lib.hid (B_61.out.trans (hb.mono B_61.out.size))
    have X11_62 := Lib.hid (blk_below X11_61.out hb)
    have X13_62 := Lib.hid (blk_below X13_61.out hb)
    have X15_62 := Lib.hid (blk_below X15_61.out hb)
    have Ma_62 := Lib.hid (Ma_61.out.below hb)
    have Mb_62 := Lib.hid (Mb_61.out.below hb)
    clear hb B_61 X11_61 X13_61 X15_61 Ma_61 Mb_61
    have N_62 := Lib.hid hN
    clear hN
    go_wp2_with fail
    refine (T_calls _).mono ?_
    rintro e w63 ⟨rfl, hb⟩
    have B_63 := Lib.hid (B_62.out.trans (hb.mono B_62.out.size))
    have X11_63 := Lib.hid (blk_below X11_62.out hb)
    have X13_63 := Lib.hid (blk_below X13_62.out hb)
    have X15_63 := Lib.hid (blk_below X15_62.out hb)
    have Ma_63 := Lib.hid (Ma_62.out.below hb)
    have Mb_63 := Lib.hid (Mb_62.out.below hb)
    have N_63 := Lib.hid (Kd.C_below N_62.out hb)
    clear hb B_62 X11_62 X13_62 X15_62 Ma_62 Mb_62 N_62
    go_wp2_with fail
    refine (None_calls _).mono ?_
    rintro e w64 ⟨rfl, hb⟩
    have B_64 := Lib.hid (B_63.out.trans (hb.mono B_63.out.size))
    have X11_64 := Lib.hid (blk_below X11_63.out hb)
    have X13_64 := Lib.hid (blk_below X13_63.out hb)
    have X15_64 := Lib.hid (blk_below X15_63.out hb)
    have Ma_64 := Lib.hid (Ma_63.out.below hb)
    have Mb_64 := Lib.hid (Mb_63.out.below hb)
    have N_64 := Lib.hid (Kd.C_below N_63.out hb)
    clear hb B_63 X11_63 X13_63 X15_63 Ma_63 Mb_63 N_63
    go_wp2_with fail
    refine (made_v (join_ex _ _ _ N_64.out) 4 (by decide)).mono ?_
    rintro e w65 ⟨⟨A90, q90, c90, r90, rfl, h90⟩, hb⟩
    have B_65 := Lib.hid (B_64.out.trans (hb.mono B_64.out.size))
    have X11_65 := Lib.hid (blk_below X11_64.out hb)
    have X13_65 := Lib.hid (blk_below X13_64.out hb)
    have X15_65 := Lib.hid (blk_below X15_64.out hb)
    have Ma_65 := Lib.hid (Ma_64.out.below hb)
    have Mb_65 := Lib.hid (Mb_64.out.below hb)
    have N_65 := Lib.hid (Kd.C_below N_64.out hb)
    clear hb B_64 X11_64 X13_64 X15_64 Ma_64 Mb_64 N_64
    have Mc_65 := Lib.hid h90
    clear h90
    clear N_65
    obtain ⟨va66, vb66, w66, ⟨sa66, sb66, sc66⟩, ⟨ca66, cb66, cc66⟩, ⟨za66, zb66, zc66⟩, hw66⟩ := store3 X15_65.out 3 r90 4
    have B_66 := Lib.hid (show Below w.heap.size w w66 by rw [hw66]; exact below_setk B_65.out hgw15.out _ _ _)
    have X11_66 := Lib.hid (show w66.heap[g11]? = some (.cells #[.int .i64 3, .int .i64 r80, .int .i64 1] 25 (0, 0)) by rw [hw66]; exact blk_store3 X11_65.out (by have := hlt11_15.out; omega) _ _ _)
    have X13_66 := Lib.hid (show w66.heap[g13]? = some (.cells #[.int .i64 3, .int .i64 r81, .int .i64 1] 25 (0, 0)) by rw [hw66]; exact blk_store3 X13_65.out (by have := hlt13_15.out; omega) _ _ _)
    have X15_66 := Lib.hid (show w66.heap[g15]? = some (.cells #[.int .i64 3, .int .i64 r90, .int .i64 4] 25 (0, 0)) by rw [hw66]; exact blk_set (blk_set (blk_set X15_65.out 0 (.int .i64 3)) 1 (.int .i64 r90)) 2 (.int .i64 4))
    have Ma_66 := Lib.hid (Ma_65.out.set X15_65.out (.int .i64 3) (.int .i64 r90) (.int .i64 4))
    rw [← hw66] at Ma_66
    have Mb_66 := Lib.hid (Mb_65.out.set X15_65.out (.int .i64 3) (.int .i64 r90) (.int .i64 4))
    rw [← hw66] at Mb_66
    have Mc_66 := Lib.hid (Mc_65.out.set X15_65.out (.int .i64 3) (.int .i64 r90) (.int .i64 4))
    rw [← hw66] at Mc_66
    clear hw66 B_65 X11_65 X13_65 X15_65 Ma_65 Mb_65 Mc_65
    go_upto_region 26 with fail
    clear sa66 sb66 sc66 ca66 cb66 cc66 za66 zb66 zc66
    go_upto_region 26 with fail
    go_cut [0] (fun sx wx => sx = .bool true ∧ Below w66.heap.size w66 wx)
    case first =>
      have hKK := ‹∀ (a' : Act) (w' : World), Met _ a' w' → _›
      refine reg26_ok ?hcd Ma_66.out X11_66.out Mb_66.out X13_66.out Mc_66.out X15_66.out (fun v0 v1 v2 v3 v4 v5 v6 v7 v8 v9 v10 v11 v12 v13 v14 v15 v16 v17 v18 v19 v20 v21 v22 v23 v24 v25 v26 v27 v28 v29 v30 v31 v32 wx hB => hKK _ _ ?_)
      case hcd => kernel_rfl
      go_meet
      exact ⟨rfl, hB⟩
    case rest =>
      obtain ⟨rfl, hb⟩ := hcut
      clear Ma_66
      clear Mb_66
      clear Mc_66
      revert hb
      revert wc
      intro w67 hb
      have B_67 := Lib.hid (B_66.out.trans (hb.mono B_66.out.size))
      have X11_67 := Lib.hid (blk_below X11_66.out hb)
      have X13_67 := Lib.hid (blk_below X13_66.out hb)
      have X15_67 := Lib.hid (blk_below X15_66.out hb)
      clear hb B_66 X11_66 X13_66 X15_66
      go_wp2
      go_ret
      exact ⟨rfl, B_67.out⟩
end Go.Proofs.YtbfedeedicnedaaGreat
end
