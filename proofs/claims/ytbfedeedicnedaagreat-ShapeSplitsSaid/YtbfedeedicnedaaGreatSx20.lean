/-
  Texts of this claim: Shelf, ShS, ShAC.
-/
import Derived.Test.YtbfedeedicnedaaGreatSx18
import Derived.Shelf.Sort.Plain
import Derived.Shelf.Bits.Mul64
import Derived.Shelf.Slices.Turned
import Derived.Ground.Names2Prog
import Derived.Shelf.Slices.Clone
import Derived.Shelf.Slices.CompactI
import Derived.Shelf.Slices.SearchI
import Derived.Shelf.Slices.Delete
import Derived.Shelf.Slices.Cells
import Derived.Shelf.Slices.In.SortNone
import Derived.Shelf.Slices.Empties
import Derived.Sort.OwnSortedInts
import Derived.Laws.CopyOwn
set_option linter.unusedVariables false
set_option linter.unusedSimpArgs false
section
namespace Go.Proofs
open Go.Shelf
def Tryz.lays189_ren : Go.Shelf.Ren := ⟨fun | 189 => 77 | 125 => 108 | 257 => 107 | 128 => 127 | 129 => 128 | 294 => 119 | 295 => 120 | 296 => 121 | 297 => 122 | 298 => 123 | 299 => 124 | 216 => 110 | 300 => 125 | 301 => 126 | 328 => 131 | 329 => 132 | 330 => 133 | 331 => 134 | 332 => 135 | 215 => 129 | 343 => 136 | n => n, fun | 28 => 28 | 3 => 3 | 46 => 145 | 0 => 0 | 51 => 168 | 53 => 170 | 4 => 4 | 183 => 162 | 182 => 161 | 131 => 121 | 5 => 5 | 9 => 9 | 218 => 172 | 222 => 176 | 228 => 178 | 229 => 43 | n => n, fun | n => n⟩
theorem Tryz.lays189 : Go.Proofs.Lays.n189 Tryz.prog Tryz.lays189_ren := {
  mixed := by kernel_rfl
  f125 := Tryz.func108.trans (congrArg some (by kernel_rfl))
  f128 := Tryz.func127.trans (congrArg some (by kernel_rfl))
  f129 := Tryz.func128.trans (congrArg some (by kernel_rfl))
  f189 := Tryz.func77.trans (congrArg some (by kernel_rfl))
  f215 := Tryz.func129.trans (congrArg some (by kernel_rfl))
  f216 := Tryz.func110.trans (congrArg some (by kernel_rfl))
  f257 := Tryz.func107.trans (congrArg some (by kernel_rfl))
  f294 := Tryz.func119.trans (congrArg some (by kernel_rfl))
  f295 := Tryz.func120.trans (congrArg some (by kernel_rfl))
  f296 := Tryz.func121.trans (congrArg some (by kernel_rfl))
  f297 := Tryz.func122.trans (congrArg some (by kernel_rfl))
  f298 := Tryz.func123.trans (congrArg some (by kernel_rfl))
  f299 := Tryz.func124.trans (congrArg some (by kernel_rfl))
  f300 := Tryz.func125.trans (congrArg some (by kernel_rfl))
  f301 := Tryz.func126.trans (congrArg some (by kernel_rfl))
  f328 := Tryz.func131.trans (congrArg some (by kernel_rfl))
  f329 := Tryz.func132.trans (congrArg some (by kernel_rfl))
  f330 := Tryz.func133.trans (congrArg some (by kernel_rfl))
  f331 := Tryz.func134.trans (congrArg some (by kernel_rfl))
  f332 := Tryz.func135.trans (congrArg some (by kernel_rfl))
  f343 := Tryz.func136.trans (congrArg some (by kernel_rfl))
  t0 := Tryz.underlying0
  a0 := Tryz.isAgg0
  z0 := Tryz.sizeOf0
  v0 := Tryz.zeroValue0
  t3 := Tryz.underlying3
  a3 := Tryz.isAgg3
  z3 := Tryz.sizeOf3
  v3 := Tryz.zeroValue3
  t4 := Tryz.underlying4
  a4 := Tryz.isAgg4
  z4 := Tryz.sizeOf4
  v4 := Tryz.zeroValue4
  t5 := Tryz.underlying5
  a5 := Tryz.isAgg5
  z5 := Tryz.sizeOf5
  v5 := Tryz.zeroValue5
  t9 := Tryz.underlying9
  a9 := Tryz.isAgg9
  z9 := Tryz.sizeOf9
  v9 := Tryz.zeroValue9
  t28 := Tryz.underlying28
  a28 := Tryz.isAgg28
  z28 := Tryz.sizeOf28
  v28 := Tryz.zeroValue28
  t46 := Tryz.underlying145
  a46 := Tryz.isAgg145
  z46 := Tryz.sizeOf145
  v46 := Tryz.zeroValue145
  t51 := Tryz.underlying168
  a51 := Tryz.isAgg168
  z51 := Tryz.sizeOf168
  v51 := Tryz.zeroValue168
  t53 := Tryz.underlying170
  a53 := Tryz.isAgg170
  z53 := Tryz.sizeOf170
  v53 := Tryz.zeroValue170
  t131 := Tryz.underlying121
  a131 := Tryz.isAgg121
  z131 := Tryz.sizeOf121
  v131 := Tryz.zeroValue121
  t182 := Tryz.underlying161
  a182 := Tryz.isAgg161
  z182 := Tryz.sizeOf161
  v182 := Tryz.zeroValue161
  t183 := Tryz.underlying162
  a183 := Tryz.isAgg162
  z183 := Tryz.sizeOf162
  v183 := Tryz.zeroValue162
  t218 := Tryz.underlying172
  a218 := Tryz.isAgg172
  z218 := Tryz.sizeOf172
  v218 := Tryz.zeroValue172
  t222 := Tryz.underlying176
  a222 := Tryz.isAgg176
  z222 := Tryz.sizeOf176
  v222 := Tryz.zeroValue176
  t228 := Tryz.underlying178
  a228 := Tryz.isAgg178
  z228 := Tryz.sizeOf178
  v228 := Tryz.zeroValue178
  t229 := Tryz.underlying43
  a229 := Tryz.isAgg43
  z229 := Tryz.sizeOf43
  v229 := Tryz.zeroValue43 }
open Go.Sort Go.RowKit in
theorem Tryz.slices_Sort_int (blk off cap : Nat) (zs : List Int) (w : World) (hH : Holds (Value.int .i64) w blk off zs.toArray) (hblk : blk < w.heap.size) (hsz : zs.length < 4611686018427387904) :
    Calls Tryz.prog 77 #[.slice (some ⟨blk, off, none⟩) zs.length cap] w fun e w' =>
      e = .returned (.tuple #[]) ∧ ∃ n os, w' = grow (putRow (Value.int .i64) (Sort.ahead w n) blk off (zs.mergeSort fun x y => decide (x ≤ y)).toArray) os := Any.slices_Sort_int Tryz.lays189 blk off cap zs w hH hblk hsz
def Tryz.lays212_ren : Go.Shelf.Ren := ⟨fun | 212 => 173 | 263 => 176 | 264 => 177 | n => n, fun | 46 => 145 | 51 => 168 | 146 => 203 | 53 => 170 | 148 => 205 | n => n, fun | n => n⟩
theorem Tryz.lays212 : Go.Proofs.Lays.n212 Tryz.prog Tryz.lays212_ren := {
  mixed := by kernel_rfl
  f212 := Tryz.func173.trans (congrArg some (by kernel_rfl))
  f263 := Tryz.func176.trans (congrArg some (by kernel_rfl))
  f264 := Tryz.func177.trans (congrArg some (by kernel_rfl))
  t46 := Tryz.underlying145
  a46 := Tryz.isAgg145
  z46 := Tryz.sizeOf145
  v46 := Tryz.zeroValue145
  t51 := Tryz.underlying168
  a51 := Tryz.isAgg168
  z51 := Tryz.sizeOf168
  v51 := Tryz.zeroValue168
  t53 := Tryz.underlying170
  a53 := Tryz.isAgg170
  z53 := Tryz.sizeOf170
  v53 := Tryz.zeroValue170
  t146 := Tryz.underlying203
  a146 := Tryz.isAgg203
  z146 := Tryz.sizeOf203
  v146 := Tryz.zeroValue203
  t148 := Tryz.underlying205
  a148 := Tryz.isAgg205
  z148 := Tryz.sizeOf205
  v148 := Tryz.zeroValue205 }
open Go.RowKit Go.Lib in
theorem Tryz.bits_Mul (x y : Nat) (hx : x < 18446744073709551616) (hy : y < 18446744073709551616) (w : World) :
    Calls Tryz.prog 173 #[.int .u64 x, .int .u64 y] w fun e w' => e = .returned (.tuple #[.int .u64 ((x * y / 18446744073709551616 : Nat) : Int), .int .u64 ((x * y % 18446744073709551616 : Nat) : Int)]) ∧ w' = w := Any.bits_Mul Tryz.lays212 x y hx hy w
def Tryz.lays107_ren : Go.Shelf.Ren := ⟨fun | 107 => 57 | 108 => 94 | n => n, fun | 28 => 28 | 3 => 3 | 4 => 4 | 0 => 0 | n => n, fun | n => n⟩
theorem Tryz.lays107 : Go.Proofs.Lays.n107 Tryz.prog Tryz.lays107_ren := {
  mixed := by kernel_rfl
  f107 := Tryz.func57.trans (congrArg some (by kernel_rfl))
  f108 := Tryz.func94.trans (congrArg some (by kernel_rfl))
  t0 := Tryz.underlying0
  a0 := Tryz.isAgg0
  z0 := Tryz.sizeOf0
  v0 := Tryz.zeroValue0
  t3 := Tryz.underlying3
  a3 := Tryz.isAgg3
  z3 := Tryz.sizeOf3
  v3 := Tryz.zeroValue3
  t4 := Tryz.underlying4
  a4 := Tryz.isAgg4
  z4 := Tryz.sizeOf4
  v4 := Tryz.zeroValue4
  t28 := Tryz.underlying28
  a28 := Tryz.isAgg28
  z28 := Tryz.sizeOf28
  v28 := Tryz.zeroValue28 }
open Go.Lib in
theorem Tryz.slices_Contains_int (b off n c : Nat) (zs : List Int) (x : Int) (w : World) (hz : n ≤ zs.length) (hbig : n ≤ 9223372036854775807) (hc : ∀ j, j < zs.length → w.cell? ⟨b, off + j, none⟩ = some (.int .i64 (zs.getD j 0))) :
    Calls Tryz.prog 57 #[.slice (some ⟨b, off, none⟩) n c, .int .i64 x] w fun e w' => e = .returned (.bool ((zs.take n).contains x)) ∧ w' = w := Any.slices_Contains_int Tryz.lays107 b off n c zs x w hz hbig hc
open Go.Lib in
theorem Tryz.slices_Contains_int_empty (a : Option Addr) (c : Nat) (x : Int) (w : World) :
    Calls Tryz.prog 57 #[.slice a 0 c, .int .i64 x] w fun e w' => e = .returned (.bool false) ∧ w' = w := Any.slices_Contains_int_empty Tryz.lays107 a c x w
def Tryz.laysNm220_ren : Go.Shelf.Ren := ⟨fun | 20 => 79 | n => n, fun | 22 => 28 | 3 => 3 | 4 => 4 | 0 => 0 | n => n, fun | n => n⟩
theorem Tryz.laysNm220 : Go.Proofs.Lays2.n20 Tryz.prog Tryz.laysNm220_ren := {
  mixed := by kernel_rfl
  f20 := Tryz.func79.trans (congrArg some (by kernel_rfl))
  t0 := Tryz.underlying0
  a0 := Tryz.isAgg0
  z0 := Tryz.sizeOf0
  v0 := Tryz.zeroValue0
  t3 := Tryz.underlying3
  a3 := Tryz.isAgg3
  z3 := Tryz.sizeOf3
  v3 := Tryz.zeroValue3
  t4 := Tryz.underlying4
  a4 := Tryz.isAgg4
  z4 := Tryz.sizeOf4
  v4 := Tryz.zeroValue4
  t22 := Tryz.underlying28
  a22 := Tryz.isAgg28
  z22 := Tryz.sizeOf28
  v22 := Tryz.zeroValue28
  i3 := by kernel_rfl }
open Go.RowKit Go.Lib Go.Sort in
theorem Tryz.slices_Compact_int (blk off cap : Nat) (zs : List Int) (w : World) (hH : Holds (Value.int .i64) w blk off zs.toArray) (hsz : zs.length ≤ 9223372036854775807) (hcap : zs.length ≤ cap) :
    Calls Tryz.prog 79 #[.slice (some ⟨blk, off, none⟩) zs.length cap] w fun e w' => e = .returned (.slice (some ⟨blk, off, none⟩) (Lib.compact zs).length cap) ∧ ∃ q, w' = putRow (Value.int .i64) (Sort.ahead w q) blk off (Lib.compact zs ++ List.replicate (zs.length - (Lib.compact zs).length) 0).toArray := Any.slices_Compact_int Tryz.laysNm220 blk off cap zs w hH hsz hcap
open Go.RowKit Go.Lib Go.Sort in
theorem Tryz.slices_Compact_int_empty (a : Option Addr) (cap : Nat) (w : World) :
    Calls Tryz.prog 79 #[.slice a 0 cap] w fun e w' => e = .returned (.slice a 0 cap) ∧ w' = w := Any.slices_Compact_int_empty Tryz.laysNm220 a cap w
def Tryz.laysNm225_ren : Go.Shelf.Ren := ⟨fun | 25 => 89 | 31 => 110 | 32 => 111 | 37 => 129 | n => n, fun | 22 => 28 | 3 => 3 | 4 => 4 | 40 => 145 | 0 => 0 | n => n, fun | n => n⟩
theorem Tryz.laysNm225 : Go.Proofs.Lays2.n25 Tryz.prog Tryz.laysNm225_ren := {
  mixed := by kernel_rfl
  f25 := Tryz.func89.trans (congrArg some (by kernel_rfl))
  f31 := Tryz.func110.trans (congrArg some (by kernel_rfl))
  f32 := Tryz.func111.trans (congrArg some (by kernel_rfl))
  f37 := Tryz.func129.trans (congrArg some (by kernel_rfl))
  t0 := Tryz.underlying0
  a0 := Tryz.isAgg0
  z0 := Tryz.sizeOf0
  v0 := Tryz.zeroValue0
  t3 := Tryz.underlying3
  a3 := Tryz.isAgg3
  z3 := Tryz.sizeOf3
  v3 := Tryz.zeroValue3
  t4 := Tryz.underlying4
  a4 := Tryz.isAgg4
  z4 := Tryz.sizeOf4
  v4 := Tryz.zeroValue4
  t22 := Tryz.underlying28
  a22 := Tryz.isAgg28
  z22 := Tryz.sizeOf28
  v22 := Tryz.zeroValue28
  t40 := Tryz.underlying145
  a40 := Tryz.isAgg145
  z40 := Tryz.sizeOf145
  v40 := Tryz.zeroValue145 }
open Go.RowKit Go.Lib in
theorem Tryz.slices_BinarySearch_int (b off n c : Nat) (zs : List Int) (x : Int) (w : World) (hz : n ≤ zs.length) (hbig : n < 4611686018427387904) (hc : ∀ j, j < zs.length → w.cell? ⟨b, off + j, none⟩ = some (.int .i64 (zs.getD j 0))) (hs : (zs.take n).Pairwise (· ≤ ·)) :
    Calls Tryz.prog 89 #[.slice (some ⟨b, off, none⟩) n c, .int .i64 x] w fun e w' => e = .returned (.tuple #[.int .i64 ((zs.take n).countP (· < x) : Nat), .bool ((zs.take n).contains x)]) ∧ ∃ q, w' = w.drewN q := Any.slices_BinarySearch_int Tryz.laysNm225 b off n c zs x w hz hbig hc hs
open Go.RowKit Go.Sort in
theorem Tryz.slices_Sort_int_none (p : Option Addr) (cap : Nat) (w : World) :
    Calls Tryz.prog 77 #[.slice p 0 cap] w fun e w' => e = .returned (.tuple #[]) ∧ w' = w := Any.slices_Sort_int_none Tryz.lays189 p cap w
open Go.RowKit Go.Lib in
theorem Tryz.slices_BinarySearch_int_empty (a : Option Addr) (c : Nat) (x : Int) (w : World) :
    Calls Tryz.prog 89 #[.slice a 0 c, .int .i64 x] w fun e w' => e = .returned (.tuple #[.int .i64 0, .bool false]) ∧ w' = w := Any.slices_BinarySearch_int_empty Tryz.laysNm225 a c x w
end Go.Proofs
end
section
namespace Go.Proofs.YtbfedeedicnedaaGreat
open Go.RowKit Go.Sort
open Go.Proofs.YtbfedeedicnedaaGreatW.PrintWords
theorem Ints.cases {w : World} {base : Nat} {v : Value} {l : List Int} (h : Ints w base v l) :
    (v = .slice none 0 0 ∧ l = []) ∨ ∃ g cap cur, v = .slice (some ⟨g, 0, none⟩) l.length cap ∧ base ≤ g ∧ w.heap[g]? = some (.cells cur 3 (0, 0)) ∧ l.length ≤ cap ∧ cap ≤ maxLen ∧ cur.size = cap * 1 ∧ cur.toList.take l.length = l.map (Value.int .i64) := by
  rcases h.own.2 with ⟨h0, h1⟩ | ⟨g, cap, cur, h0, h1, h2, h3, h4, h5, h6⟩
  · exact .inl ⟨h0, List.length_eq_zero_iff.1 h1⟩
  · refine .inr ⟨g, cap, cur, h0, h1, h2, h3, h4, h5, ?_⟩
    rw [Nat.mul_one] at h6
    exact h6
theorem grown_below {w w' : World} {base g : Nat} (hg : w.grownBy w' (some g)) (h : base ≤ g) (hs : g < w.heap.size) : Below base w w' :=
  ⟨hg.os, hg.tape, hg.output, hg.size, fun k hk => hg.block k (by omega) (by simp; omega)⟩
theorem sort_calls {base : Nat} {v : Value} {l : List Int} {w : World} (h : Ints w base v l) (hl : l.length ≤ 1000000) :
    Calls Tryz.prog 77 #[v] w fun e w' => e = .returned (.tuple #[]) ∧ Ints w' base v l.mergeSort ∧ Below base w w' := by
  rcases h.cases with ⟨rfl, rfl⟩ | ⟨g, cap, cur, rfl, hb, hg, h1, h2, h3, h4⟩
  · refine (Tryz.slices_Sort_int_none none 0 w).mono ?_
    rintro e w' ⟨rfl, rfl⟩
    exact ⟨rfl, by simpa using h, Below.refl _ _⟩
  · refine (Tryz.slices_Sort_int g 0 cap l w (holds_of_blockI hg h4) (blk_lt hg) (by omega)).mono ?_
    rintro e w' ⟨rfl, n, os, rfl⟩
    refine ⟨rfl, ?_, grown_below (grownBy_sortedI _) hb (blk_lt hg)⟩
    have := ownsRow_sortedI (n := n) (os := os) (ss := l) (ts := l.mergeSort) (List.length_mergeSort _) hb hg h1 h2 h3
    have h5 : (grow (putRow (Value.int .i64) (Sort.ahead w n) g 0 l.mergeSort.toArray) os).ownsRow base 3 1 (.slice (some ⟨g, 0, none⟩) l.length cap) l.mergeSort.length (nums .i64 l.mergeSort) := by
      rw [List.length_mergeSort]
      exact this
    exact Ints.mk h5
theorem compact_le (l : List Int) : (Lib.compact l).length ≤ l.length := by
  unfold Lib.compact Lib.compactUpTo
  rw [List.length_map]
  exact Nat.le_trans (List.length_filter_le _ _) (by simp)
theorem compact_calls {base : Nat} {v : Value} {l : List Int} {w : World} (h : Ints w base v l) (hl : l.length ≤ 1000000) :
    Calls Tryz.prog 79 #[v] w fun e w' => ∃ v', e = .returned v' ∧ Ints w' base v' (Lib.compact l) ∧ Below base w w' := by
  rcases h.cases with ⟨rfl, rfl⟩ | ⟨g, cap, cur, rfl, hb, hg, h1, h2, h3, h4⟩
  · refine (Tryz.slices_Compact_int_empty none 0 w).mono ?_
    rintro e w' ⟨rfl, rfl⟩
    exact ⟨_, rfl, h, Below.refl _ _⟩
  · refine (Tryz.slices_Compact_int g 0 cap l w (holds_of_blockI hg h4) (by omega) h1).mono ?_
    rintro e w' ⟨rfl, q, hw⟩
    have hle := compact_le l
    obtain ⟨ts, hts⟩ : ∃ ts, ts = Lib.compact l ++ List.replicate (l.length - (Lib.compact l).length) 0 := ⟨_, rfl⟩
    rw [← hts] at hw
    have hlen : ts.length = l.length := by rw [hts, List.length_append, List.length_replicate]; omega
    have e0 : w' = grow (putRow (Value.int .i64) (Sort.ahead w q) g 0 ts.toArray) #[] := by rw [hw]; unfold grow; rw [Array.append_empty]
    have h5 := ownsRow_sortedI (n := q) (os := #[]) (ss := l) (ts := ts) hlen hb hg h1 h2 h3
    have h6 := grownBy_sortedI (w := w) (g := g) (n := q) (os := #[]) ts.toArray
    rw [← e0] at h5 h6
    refine ⟨_, rfl, Ints.mk ⟨by simp [nums], .inr ?_⟩, grown_below h6 hb (blk_lt hg)⟩
    rcases h5.2 with ⟨h7, _⟩ | ⟨g', cap', cur', h7, h8, h9, h10, h11, h12, h13⟩
    · cases h7
    · simp only [Value.slice.injEq, Option.some.injEq, Addr.mk.injEq] at h7
      obtain ⟨⟨rfl, _⟩, _, rfl⟩ := h7
      refine ⟨g, cap, cur', rfl, hb, h9, by omega, h11, h12, ?_⟩
      rw [Nat.mul_one] at h13 ⊢
      have : cur'.toList.take (Lib.compact l).length = (cur'.toList.take l.length).take (Lib.compact l).length := by rw [List.take_take]; congr 1; omega
      rw [this, h13, hts, List.map_append, List.take_append_of_le_length (by simp), List.take_of_length_le (by simp)]
      rfl
theorem Ints.cellAt {w : World} {base g cap : Nat} {l : List Int} (h : Ints w base (.slice (some ⟨g, 0, none⟩) l.length cap) l) (j : Nat) (hj : j < l.length) : w.cell? ⟨g, 0 + j, none⟩ = some (.int .i64 (l.getD j 0)) := by
  obtain ⟨A, c, e, _, hC⟩ := Kd.R_reads h
  simp only [Value.slice.injEq] at e
  obtain ⟨ad, e1, h1⟩ := at_int hC j (by omega) (by omega)
  rw [← e.1] at e1
  cases e1
  rw [Int.toNat_natCast] at h1
  unfold Sh.gi at h1
  rcases Nat.eq_zero_or_pos j with rfl | hp
  · exact h1
  · rw [add_pos _ _ hp] at h1
    exact h1
theorem bsearch_calls {base : Nat} {v : Value} {l : List Int} {w : World} (h : Ints w base v l) (hl : l.length ≤ 1000000) (hs : l.Pairwise (· ≤ ·)) (x : Int) :
    Calls Tryz.prog 89 #[v, .int .i64 x] w fun e w' => e = .returned (.tuple #[.int .i64 (l.countP (· < x) : Nat), .bool (l.contains x)]) ∧ ∃ q, w' = w.drewN q := by
  rcases h.cases with ⟨rfl, rfl⟩ | ⟨g, cap, cur, rfl, hb, hg, h1, h2, h3, h4⟩
  · refine (Tryz.slices_BinarySearch_int_empty none 0 x w).mono ?_
    rintro e w' ⟨rfl, rfl⟩
    exact ⟨rfl, 0, rfl⟩
  · have := Tryz.slices_BinarySearch_int g 0 l.length cap l x w (Nat.le_refl _) (by omega) (fun j hj => h.cellAt j hj) (by rw [List.take_length]; exact hs)
    rwa [List.take_length] at this
theorem contains_calls {base : Nat} {v : Value} {l : List Int} {w : World} (h : Ints w base v l) (hl : l.length ≤ 1000000) (x : Int) :
    Calls Tryz.prog 57 #[v, .int .i64 x] w fun e w' => e = .returned (.bool (l.contains x)) ∧ w' = w := by
  rcases h.cases with ⟨rfl, rfl⟩ | ⟨g, cap, cur, rfl, hb, hg, h1, h2, h3, h4⟩
  · exact Tryz.slices_Contains_int_empty none 0 x w
  · have := Tryz.slices_Contains_int g 0 l.length cap l x w (Nat.le_refl _) (by omega) (fun j hj => h.cellAt j hj)
    rwa [List.take_length] at this
end Go.Proofs.YtbfedeedicnedaaGreat
end
section
namespace Go.Proofs.YtbfedeedicnedaaGreat
open Go.RowKit
open Go.Proofs.YtbfedeedicnedaaGreatW.PrintWords
theorem add_zero' (g j : Nat) : (⟨g, 0, none⟩ : Addr).add j = ⟨g, j, none⟩ := by
  rcases Nat.eq_zero_or_pos j with rfl | h
  · rfl
  · rw [add_pos _ _ h]
    simp
theorem made_ints (n : Nat) : madeCells (Value.int .i64 0).cells n = Array.replicate n (.int .i64 0) := by
  apply Array.toList_inj.1
  rw [Array.toList_replicate]
  exact toList_madeCells_one _ _
theorem make_ints (W : World) (n : Nat) (hn : n ≤ 1000000) : (Instr.makeSlice 28 (.int .i64 n) (.int .i64 n)).run Tryz.prog W = .ok (.slice (some ⟨W.heap.size, 0, none⟩) n n) (W.alloc (.cells (Array.replicate n (.int .i64 0)) 3)) := by
  obtain ⟨i, hi, hz⟩ := Option.map_eq_some_iff.1 PAll.info3
  simp only [Prod.mk.injEq] at hz
  have := run_make (P := Tryz.prog) W 28 3 i _ Tryz.underlying28 hi hz.1 .i64 .i64 n n (by omega) (Int.le_refl _) (by rw [hz.2.2]; omega) (by omega)
  rw [hz.2.1, Int.toNat_natCast, Nat.mul_one, made_ints] at this
  exact this
def halfRow (x : Int) (n c : Nat) : List Value := List.replicate n (.int .i64 x) ++ List.replicate (c - n) (.int .i64 0)
theorem half_get (x : Int) (n c j : Nat) (h : j < n) : (halfRow x n c)[j]? = some (.int .i64 x) := by
  unfold halfRow
  rw [List.getElem?_append_left (by rw [List.length_replicate]; exact h), List.getElem?_replicate, if_pos h]
theorem half_more (x : Int) (n c m : Nat) (h : n + m ≤ c) : (halfRow x n c).take n ++ List.replicate m (.int .i64 x) ++ (halfRow x n c).drop (n + (List.replicate m (Value.int .i64 x)).length) = halfRow x (n + m) c := by
  unfold halfRow
  rw [List.length_replicate, List.take_append_of_le_length (by rw [List.length_replicate]; exact Nat.le_refl _), List.take_of_length_le (by rw [List.length_replicate]; exact Nat.le_refl _), List.drop_append, List.length_replicate, List.drop_of_length_le (by rw [List.length_replicate]; omega), List.nil_append, List.drop_replicate, List.replicate_append_replicate]
  congr 2
  omega
theorem half_len (x : Int) (n c : Nat) (h : n ≤ c) : (halfRow x n c).length = c := by
  unfold halfRow
  rw [List.length_append, List.length_replicate, List.length_replicate]
  omega
theorem copy_half {w : World} {g n c : Nat} {x : Int} (hg : w.heap[g]? = some (.cells (halfRow x n c).toArray 3 (0, 0))) (hn : n ≤ c) (h0 : 0 < n) :
    (Builtin.copy_ #[28, 28] 3 #[.slice (some ⟨g, n, none⟩) (c - n) (c - n), .slice (some ⟨g, 0, none⟩) n c]).run Tryz.prog w = .ok (.int .i64 ((Nat.min n (c - n) : Nat) : Int)) (w.setRow g (halfRow x (n + Nat.min n (c - n)) c).toArray) := by
  have hi : (Tryz.prog.info? 3).map (·.size) = some 1 := by
    obtain ⟨i, hi, hz⟩ := Option.map_eq_some_iff.1 PAll.info3
    simp only [Prod.mk.injEq] at hz
    rw [hi]
    exact congrArg some hz.2.1
  have hmin : Nat.min n (c - n) ≤ n ∧ Nat.min n (c - n) ≤ c - n := ⟨Nat.min_le_left _ _, Nat.min_le_right _ _⟩
  have := run_copy_row Tryz.prog w 28 28 3 3 g n (c - n) (c - n) ⟨g, 0, none⟩ n c _ 3 (List.replicate (Nat.min n (c - n)) (.int .i64 x)) Tryz.underlying28 hi hg (by rw [List.length_replicate]) (fun j v hj => by
    rw [List.getElem?_replicate] at hj
    split at hj
    · rename_i h
      rw [add_zero' g j, blk_cell hg]
      rw [List.getElem?_toArray, half_get x n c j (by omega)]
      exact hj
    · cases hj) (by rw [List.length_replicate, List.size_toArray, half_len x n c hn]; omega) (fun v hv => by rw [List.eq_of_mem_replicate hv]; rfl)
  rw [List.toList_toArray, half_more x n c _ (by omega), List.length_replicate] at this
  exact this
theorem copy_first {w : World} {g gx c : Nat} {x : Int} (hg : w.heap[g]? = some (.cells (Array.replicate c (.int .i64 0)) 3 (0, 0))) (hx : w.cell? ⟨gx, 0, none⟩ = some (.int .i64 x)) (h0 : 0 < c) :
    (Builtin.copy_ #[28, 28] 3 #[.slice (some ⟨g, 0, none⟩) c c, .slice (some ⟨gx, 0, none⟩) 1 1]).run Tryz.prog w = .ok (.int .i64 1) (w.setRow g (halfRow x 1 c).toArray) := by
  have hi : (Tryz.prog.info? 3).map (·.size) = some 1 := by
    obtain ⟨i, hi, hz⟩ := Option.map_eq_some_iff.1 PAll.info3
    simp only [Prod.mk.injEq] at hz
    rw [hi]
    exact congrArg some hz.2.1
  have e0 : Array.replicate c (Value.int .i64 0) = (halfRow x 0 c).toArray := by
    apply Array.toList_inj.1
    rw [Array.toList_replicate, List.toList_toArray]
    unfold halfRow
    simp
  rw [e0] at hg
  have := run_copy_row Tryz.prog w 28 28 3 3 g 0 c c ⟨gx, 0, none⟩ 1 1 _ 3 (List.replicate 1 (.int .i64 x)) Tryz.underlying28 hi hg (by rw [List.length_replicate]; show 1 = min 1 c; omega) (fun j v hj => by
    rw [List.getElem?_replicate] at hj
    split at hj
    · rename_i h
      obtain rfl : j = 0 := by omega
      rw [← hj]
      exact hx
    · cases hj) (by rw [List.length_replicate, List.size_toArray, half_len x 0 c (by omega)]; omega) (fun v hv => by rw [List.eq_of_mem_replicate hv]; rfl)
  rw [List.toList_toArray, half_more x 0 c 1 (by omega), List.length_replicate, Nat.zero_add] at this
  exact this
set_option maxRecDepth 100000 in
set_option maxHeartbeats 1000000 in
theorem repeat_calls (gx c : Nat) (x : Int) (w : World) (hx : w.cell? ⟨gx, 0, none⟩ = some (.int .i64 x)) (h0 : 0 < c) (hc : c ≤ 100000) :
    Calls Tryz.prog 171 #[.slice (some ⟨gx, 0, none⟩) 1 1, .int .i64 c] w fun e w' => ∃ g, e = .returned (.slice (some ⟨g, 0, none⟩) c c) ∧ w'.heap[g]? = some (.cells (List.replicate c (.int .i64 x)).toArray 3 (0, 0)) ∧ w.heap.size ≤ g ∧ Below w.heap.size w w' := by
  have hml : Hid (∀ W, Calls Tryz.prog 173 #[.int .u64 1, .int .u64 c] W fun e w' => e = .returned (.tuple #[.int .u64 0, .int .u64 c]) ∧ w' = W) := Lib.hid (fun W => by
    have := Tryz.bits_Mul 1 c (by omega) (by omega) W
    rw [Nat.one_mul, Nat.div_eq_of_lt (by omega), Nat.mod_eq_of_lt (by omega)] at this
    exact this)
  have hms := fun W => make_ints W c (by omega)
  obtain ⟨W1, hW1⟩ : ∃ W1, W1 = w.alloc (.cells (Array.replicate c (.int .i64 0)) 3) := ⟨_, rfl⟩
  have hg1 : W1.heap[w.heap.size]? = some (.cells (Array.replicate c (.int .i64 0)) 3 (0, 0)) := by rw [hW1]; exact heap_alloc_new w _
  have hx1 : W1.cell? ⟨gx, 0, none⟩ = some (.int .i64 x) := by rw [hW1]; exact pw_cell_below ((Below.refl _ _).alloc (Nat.le_refl _) _) hx
  have hcf := copy_first hg1 hx1 h0
  rw [hW1] at hcf
  have hz0 : ((c : Int) == 0) = false := by rw [beq_eq_false_iff_ne]; omega
  obtain ⟨W2, hW2⟩ : ∃ W2, W2 = W1.setRow w.heap.size (halfRow x 1 c).toArray := ⟨_, rfl⟩
  have hB2 := Lib.hid (show Below w.heap.size w W2 by rw [hW2, hW1]; exact below_setRow ((Below.refl _ _).alloc (Nat.le_refl _) _) (Nat.le_refl _) _)
  have hg2 := Lib.hid (show W2.heap[w.heap.size]? = some (.cells (halfRow x 1 c).toArray 3 (0, 0)) by rw [hW2]; exact setRow_heap W1 _ _ _ _ _ hg1)
  rw [← hW1, ← hW2] at hcf
  rw [hW1] at hcf
  clear hg1 hx1 hW2 hx
  go_enter Tryz.func171, Tryz.ntmps171
  go_wp2_with fail
  refine (hml.out _).mono ?_
  rintro e w1 ⟨rfl, rfl⟩
  go_wp2
  go_loopg [8] c (fun gg v8 wr => ∃ n : Nat, v8 = .int .i64 n ∧ 1 ≤ n ∧ n ≤ c ∧ Hid (gg + n = c + 1) ∧ Hid (Below w1.heap.size w1 wr) ∧ Hid (wr.heap[w1.heap.size]? = some (.cells (halfRow x n c).toArray 3 (0, 0))))
  case atStart => exact ⟨1, rfl, Nat.le_refl _, h0, Lib.hid rfl, hB2, hg2⟩
  case round =>
    obtain ⟨n, rfl, hn1, hn, hg, hB, hrow⟩ := hrel
    by_cases hlt : n < c
    · have hcp := copy_half (w := wr.drew) (g := w1.heap.size) hrow.out hn (by omega)
      have hm1 : 1 ≤ Nat.min n (c - n) := Nat.le_min.2 ⟨hn1, by omega⟩
      have hm2 : n + Nat.min n (c - n) ≤ c := by have := Nat.min_le_right n (c - n); show n + min n (c - n) ≤ c; omega
      generalize Nat.min n (c - n) = m at *
      obtain ⟨W3, hW3⟩ : ∃ W3, W3 = wr.drew.setRow w1.heap.size (halfRow x (n + m) c).toArray := ⟨_, rfl⟩
      have hB3 := Lib.hid (show Below w1.heap.size w1 W3 by rw [hW3]; exact below_setRow hB.out.drew (Nat.le_refl _) _)
      have hg3 := Lib.hid (show W3.heap[w1.heap.size]? = some (.cells (halfRow x (n + m) c).toArray 3 (0, 0)) by rw [hW3]; exact setRow_heap wr.drew _ _ _ _ _ hrow.out)
      rw [← hW3] at hcp
      have hwm : IntKind.i64.wrap ((n : Int) + (m : Int)) = ((n + m : Nat) : Int) := by rw [IntWalk.i64_in _ (by omega)]; omega
      have hcb : ((c : Int) - (n : Int)) = ((c - n : Nat) : Int) := by omega
      clear hW3
      go_wp2
      go_region_held3 (fun W' => True)
        (first
          | exact trivial
          | fail)
        (first
          | fail)
      all_goals
        go_wp2
        go_roundg (c + 1 - (n + m))
        case measure => have := hg.out; omega
        case rel => exact ⟨n + m, by go_num, by omega, hm2, Lib.hid (by omega), hB3, hg3⟩
    · have hnc : n = c := by omega
      subst hnc
      go_wp2
      go_ret
      refine ⟨_, rfl, ?_, Nat.le_refl _, hB.out⟩
      have := hrow.out
      unfold halfRow at this
      rw [Nat.sub_self, List.replicate_zero, List.append_nil] at this
      exact this
end Go.Proofs.YtbfedeedicnedaaGreat
end
