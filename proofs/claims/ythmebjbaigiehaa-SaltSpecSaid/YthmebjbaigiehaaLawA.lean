/- Contract of the law SaltSpec: it returns true for every input. -/
import Derived.Test.YthmebjbaigiehaaLaw
import Derived.Test.YthmebjbaigiehaaRefMix
import Derived.Test.YthmebjbaigiehaaRefLose
namespace Go.Proofs.Ythmebjbaigiehaa
open Go.RowKit

set_option maxRecDepth 100000 in
set_option maxHeartbeats 4000000 in
theorem spec_3 (A : Option Addr) (n c B : Nat) (X Y : Nat → Int) (L S ev se : Int) (w : World) (hm : n ≤ 9223372036854775807) (hB : B ≤ w.heap.size) (hr : RdP w B A n X Y) :
    Calls Try.prog 3 #[.slice A n c, .agg #[.int .i64 L, .int .i64 S], .int .i64 ev, .int .i64 se] w fun e w' => e = .returned (.bool true) ∧ Below w.heap.size w w' := by
  have HR := Lib.hid hr
  clear hr
  have HX := Lib.hid (fun W h1 h2 => Mix_12 A n c B X Y W hm h2 h1)
  have HY := Lib.hid (fun W h1 h2 => ref_Mix_13 A n c B X Y W hm h2 h1)
  have HZ := Lib.hid (fun W => Lose_14 L S ev se W)
  have HU := Lib.hid (fun W => ref_Lose_15 L S ev se W)
  unfold wtE at HX HY
  unfold prE at HZ HU
  generalize orZ (mixE n X Y) (sm X n) = a at HX HY
  generalize orZ (mixE n X Y) (sm Y n) = b at HX HY
  generalize mixE n X Y = E at HX HY
  generalize orZ (losE L S ev se) (L - ev - se) = x at HZ HU
  generalize orZ (losE L S ev se) (S - losG L S ev se) = y at HZ HU
  generalize orZ (losE L S ev se) se = z at HZ HU
  generalize orZ (losE L S ev se) (losG L S ev se) = u at HZ HU
  generalize losE L S ev se = F at HZ HU
  go_enter Try.func3, Try.ntmps3
  go_wp2_with fail
  obtain ⟨u0, hbx⟩ : ∃ zz, zz = w.alloc (.cells #[.int .i64 L, .int .i64 S] 24) := ⟨_, rfl⟩
  have NW : Blk u0 (w.heap.size) 24 #[.int .i64 L, .int .i64 S] := hbx ▸ ((Blk.new' rfl))
  have hb : Below w.heap.size w u0 := by rw [hbx]; (repeat (first | exact Below.refl _ _ | exact below_alloc _ _ | refine Below.alloc ?_ (by simp; omega) _ | refine Below.alloc ?_ (by simp) _))
  rw [← hbx]
  clear hbx
  have B1 := Lib.hid (show Below w.heap.size w u0 from hb)
  have hz1 := B1.out.size
  clear hb 
  have W1 := Lib.hid NW
  clear NW
  have hsW1 := W1.out.lt
  refine (sane_11 _).mono ?_
  rintro e v0 ⟨rfl, hb⟩
  have B2 := Lib.hid (B1.out.trans (hb.mono B1.out.size))
  have W2 := Lib.hid (W1.out.below hb W1.out.lt)
  have hz2 := B2.out.size
  clear hb B1 hz1 W1
  have hsW2 := W2.out.lt
  clear hsW1
  by_cases hn : 200 < n
  · have hn' : (200 : Int) < n := by omega
    go_wp2_with fail
    go_ret
    exact ⟨rfl, B2.out⟩
  have hn' : (n : Int) ≤ 200 := by omega
  have cW0 : v0.cell? ⟨w.heap.size, 0, none⟩ = some (.int .i64 L) := W2.out.cell 0
  have cW1 : v0.cell? ⟨w.heap.size, 1, none⟩ = some (.int .i64 S) := W2.out.cell 1
  go_wp2_with fail
  refine (HX.out _ (HR.out.below (B2.out.mono hB)) (by omega)).mono ?_
  rintro e v1 ⟨rfl, hb⟩
  clear cW0 cW1
  have B3 := Lib.hid (B2.out.trans (hb.mono B2.out.size))
  have W3 := Lib.hid (W2.out.below hb W2.out.lt)
  have hz3 := B3.out.size
  clear hb B2 hz2 W2
  have hsW3 := W3.out.lt
  clear hsW2
  go_upto_region 6 with fail
  obtain ⟨u1, hbx⟩ : ∃ zz, zz = v1.alloc (.cells #[.int .i64 a, .int .i64 b] 24) := ⟨_, rfl⟩
  have NX : Blk u1 (v1.heap.size) 24 #[.int .i64 a, .int .i64 b] := hbx ▸ ((Blk.new' rfl))
  have hb : Below v1.heap.size v1 u1 := by rw [hbx]; (repeat (first | exact Below.refl _ _ | exact below_alloc _ _ | refine Below.alloc ?_ (by simp; omega) _ | refine Below.alloc ?_ (by simp) _))
  rw [← hbx]
  clear hbx
  have B4 := Lib.hid (B3.out.trans (hb.mono B3.out.size))
  have W4 := Lib.hid (W3.out.below hb W3.out.lt)
  have hz4 := B4.out.size
  clear hb B3 hz3 W3
  have hsW4 := W4.out.lt
  clear hsW3
  have X4 := Lib.hid NX
  clear NX
  have hsX4 := X4.out.lt
  have cW0 : u1.cell? ⟨w.heap.size, 0, none⟩ = some (.int .i64 L) := W4.out.cell 0
  have cW1 : u1.cell? ⟨w.heap.size, 1, none⟩ = some (.int .i64 S) := W4.out.cell 1
  have cX0 : u1.cell? ⟨v1.heap.size, 0, none⟩ = some (.int .i64 a) := X4.out.cell 0
  have cX1 : u1.cell? ⟨v1.heap.size, 1, none⟩ = some (.int .i64 b) := X4.out.cell 1
  go_wp2_with fail
  refine (HY.out _ (HR.out.below (B4.out.mono hB)) (by omega)).mono ?_
  rintro e v2 ⟨rfl, hb⟩
  clear cW0 cW1 cX0 cX1
  have B5 := Lib.hid (B4.out.trans (hb.mono B4.out.size))
  have W5 := Lib.hid (W4.out.below hb W4.out.lt)
  have X5 := Lib.hid (X4.out.below hb X4.out.lt)
  have hz5 := B5.out.size
  clear hb B4 hz4 W4 X4
  have hsW5 := W5.out.lt
  have hsX5 := X5.out.lt
  clear hsW4 hsX4
  go_upto_region 7 with fail
  obtain ⟨u2, hbx⟩ : ∃ zz, zz = v2.alloc (.cells #[.int .i64 a, .int .i64 b] 24) := ⟨_, rfl⟩
  have NY : Blk u2 (v2.heap.size) 24 #[.int .i64 a, .int .i64 b] := hbx ▸ ((Blk.new' rfl))
  have hb : Below v2.heap.size v2 u2 := by rw [hbx]; (repeat (first | exact Below.refl _ _ | exact below_alloc _ _ | refine Below.alloc ?_ (by simp; omega) _ | refine Below.alloc ?_ (by simp) _))
  rw [← hbx]
  clear hbx
  have B6 := Lib.hid (B5.out.trans (hb.mono B5.out.size))
  have W6 := Lib.hid (W5.out.below hb W5.out.lt)
  have X6 := Lib.hid (X5.out.below hb X5.out.lt)
  have hz6 := B6.out.size
  clear hb B5 hz5 W5 X5
  have hsW6 := W6.out.lt
  have hsX6 := X6.out.lt
  clear hsW5 hsX5
  have Y6 := Lib.hid NY
  clear NY
  have hsY6 := Y6.out.lt
  have cW0 : u2.cell? ⟨w.heap.size, 0, none⟩ = some (.int .i64 L) := W6.out.cell 0
  have cW1 : u2.cell? ⟨w.heap.size, 1, none⟩ = some (.int .i64 S) := W6.out.cell 1
  have cX0 : u2.cell? ⟨v1.heap.size, 0, none⟩ = some (.int .i64 a) := X6.out.cell 0
  have cX1 : u2.cell? ⟨v1.heap.size, 1, none⟩ = some (.int .i64 b) := X6.out.cell 1
  have cY0 : u2.cell? ⟨v2.heap.size, 0, none⟩ = some (.int .i64 a) := Y6.out.cell 0
  have cY1 : u2.cell? ⟨v2.heap.size, 1, none⟩ = some (.int .i64 b) := Y6.out.cell 1
  go_wp2_with fail
  refine (HZ.out _).mono ?_
  rintro e v3 ⟨rfl, hb⟩
  clear cW0 cW1 cX0 cX1 cY0 cY1
  have B7 := Lib.hid (B6.out.trans (hb.mono B6.out.size))
  have W7 := Lib.hid (W6.out.below hb W6.out.lt)
  have X7 := Lib.hid (X6.out.below hb X6.out.lt)
  have Y7 := Lib.hid (Y6.out.below hb Y6.out.lt)
  have hz7 := B7.out.size
  clear hb B6 hz6 W6 X6 Y6
  have hsW7 := W7.out.lt
  have hsX7 := X7.out.lt
  have hsY7 := Y7.out.lt
  clear hsW6 hsX6 hsY6
  go_upto_region 8 with fail
  obtain ⟨u3, hbx⟩ : ∃ zz, zz = (v3.alloc (.cells #[.int .i64 x, .int .i64 y] 24)).alloc (.cells #[.int .i64 z, .int .i64 u] 24) := ⟨_, rfl⟩
  have NP : Blk u3 (v3.heap.size) 24 #[.int .i64 x, .int .i64 y] := hbx ▸ ((Blk.new' rfl) |>.alloc _)
  have NQ : Blk u3 (v3.heap.size + 1) 24 #[.int .i64 z, .int .i64 u] := hbx ▸ ((Blk.new' (by simp)))
  have hb : Below v3.heap.size v3 u3 := by rw [hbx]; (repeat (first | exact Below.refl _ _ | exact below_alloc _ _ | refine Below.alloc ?_ (by simp; omega) _ | refine Below.alloc ?_ (by simp) _))
  rw [← hbx]
  clear hbx
  have B8 := Lib.hid (B7.out.trans (hb.mono B7.out.size))
  have W8 := Lib.hid (W7.out.below hb W7.out.lt)
  have X8 := Lib.hid (X7.out.below hb X7.out.lt)
  have Y8 := Lib.hid (Y7.out.below hb Y7.out.lt)
  have hz8 := B8.out.size
  clear hb B7 hz7 W7 X7 Y7
  have hsW8 := W8.out.lt
  have hsX8 := X8.out.lt
  have hsY8 := Y8.out.lt
  clear hsW7 hsX7 hsY7
  have P8 := Lib.hid NP
  clear NP
  have hsP8 := P8.out.lt
  have Q8 := Lib.hid NQ
  clear NQ
  have hsQ8 := Q8.out.lt
  have cW0 : u3.cell? ⟨w.heap.size, 0, none⟩ = some (.int .i64 L) := W8.out.cell 0
  have cW1 : u3.cell? ⟨w.heap.size, 1, none⟩ = some (.int .i64 S) := W8.out.cell 1
  have cX0 : u3.cell? ⟨v1.heap.size, 0, none⟩ = some (.int .i64 a) := X8.out.cell 0
  have cX1 : u3.cell? ⟨v1.heap.size, 1, none⟩ = some (.int .i64 b) := X8.out.cell 1
  have cY0 : u3.cell? ⟨v2.heap.size, 0, none⟩ = some (.int .i64 a) := Y8.out.cell 0
  have cY1 : u3.cell? ⟨v2.heap.size, 1, none⟩ = some (.int .i64 b) := Y8.out.cell 1
  have cP0 : u3.cell? ⟨v3.heap.size, 0, none⟩ = some (.int .i64 x) := P8.out.cell 0
  have cP1 : u3.cell? ⟨v3.heap.size, 1, none⟩ = some (.int .i64 y) := P8.out.cell 1
  have cQ0 : u3.cell? ⟨v3.heap.size + 1, 0, none⟩ = some (.int .i64 z) := Q8.out.cell 0
  have cQ1 : u3.cell? ⟨v3.heap.size + 1, 1, none⟩ = some (.int .i64 u) := Q8.out.cell 1
  go_wp2_with fail
  refine (HU.out _).mono ?_
  rintro e v4 ⟨rfl, hb⟩
  clear cW0 cW1 cX0 cX1 cY0 cY1 cP0 cP1 cQ0 cQ1
  have B9 := Lib.hid (B8.out.trans (hb.mono B8.out.size))
  have W9 := Lib.hid (W8.out.below hb W8.out.lt)
  have X9 := Lib.hid (X8.out.below hb X8.out.lt)
  have Y9 := Lib.hid (Y8.out.below hb Y8.out.lt)
  have P9 := Lib.hid (P8.out.below hb P8.out.lt)
  have Q9 := Lib.hid (Q8.out.below hb Q8.out.lt)
  have hz9 := B9.out.size
  clear hb B8 hz8 W8 X8 Y8 P8 Q8
  have hsW9 := W9.out.lt
  have hsX9 := X9.out.lt
  have hsY9 := Y9.out.lt
  have hsP9 := P9.out.lt
  have hsQ9 := Q9.out.lt
  clear hsW8 hsX8 hsY8 hsP8 hsQ8
  go_upto_region 9 with fail
  obtain ⟨u4, hbx⟩ : ∃ zz, zz = (v4.alloc (.cells #[.int .i64 x, .int .i64 y] 24)).alloc (.cells #[.int .i64 z, .int .i64 u] 24) := ⟨_, rfl⟩
  have NM : Blk u4 (v4.heap.size) 24 #[.int .i64 x, .int .i64 y] := hbx ▸ ((Blk.new' rfl) |>.alloc _)
  have NO : Blk u4 (v4.heap.size + 1) 24 #[.int .i64 z, .int .i64 u] := hbx ▸ ((Blk.new' (by simp)))
  have hb : Below v4.heap.size v4 u4 := by rw [hbx]; (repeat (first | exact Below.refl _ _ | exact below_alloc _ _ | refine Below.alloc ?_ (by simp; omega) _ | refine Below.alloc ?_ (by simp) _))
  rw [← hbx]
  clear hbx
  have B10 := Lib.hid (B9.out.trans (hb.mono B9.out.size))
  have W10 := Lib.hid (W9.out.below hb W9.out.lt)
  have X10 := Lib.hid (X9.out.below hb X9.out.lt)
  have Y10 := Lib.hid (Y9.out.below hb Y9.out.lt)
  have P10 := Lib.hid (P9.out.below hb P9.out.lt)
  have Q10 := Lib.hid (Q9.out.below hb Q9.out.lt)
  have hz10 := B10.out.size
  clear hb B9 hz9 W9 X9 Y9 P9 Q9
  have hsW10 := W10.out.lt
  have hsX10 := X10.out.lt
  have hsY10 := Y10.out.lt
  have hsP10 := P10.out.lt
  have hsQ10 := Q10.out.lt
  clear hsW9 hsX9 hsY9 hsP9 hsQ9
  have M10 := Lib.hid NM
  clear NM
  have hsM10 := M10.out.lt
  have O10 := Lib.hid NO
  clear NO
  have hsO10 := O10.out.lt
  clear W10 hsW10
  have cX0 : u4.cell? ⟨v1.heap.size, 0, none⟩ = some (.int .i64 a) := X10.out.cell 0
  have cX1 : u4.cell? ⟨v1.heap.size, 1, none⟩ = some (.int .i64 b) := X10.out.cell 1
  have cY0 : u4.cell? ⟨v2.heap.size, 0, none⟩ = some (.int .i64 a) := Y10.out.cell 0
  have cY1 : u4.cell? ⟨v2.heap.size, 1, none⟩ = some (.int .i64 b) := Y10.out.cell 1
  have cP0 : u4.cell? ⟨v3.heap.size, 0, none⟩ = some (.int .i64 x) := P10.out.cell 0
  have cP1 : u4.cell? ⟨v3.heap.size, 1, none⟩ = some (.int .i64 y) := P10.out.cell 1
  have cQ0 : u4.cell? ⟨v3.heap.size + 1, 0, none⟩ = some (.int .i64 z) := Q10.out.cell 0
  have cQ1 : u4.cell? ⟨v3.heap.size + 1, 1, none⟩ = some (.int .i64 u) := Q10.out.cell 1
  have cM0 : u4.cell? ⟨v4.heap.size, 0, none⟩ = some (.int .i64 x) := M10.out.cell 0
  have cM1 : u4.cell? ⟨v4.heap.size, 1, none⟩ = some (.int .i64 y) := M10.out.cell 1
  have cO0 : u4.cell? ⟨v4.heap.size + 1, 0, none⟩ = some (.int .i64 z) := O10.out.cell 0
  have cO1 : u4.cell? ⟨v4.heap.size + 1, 1, none⟩ = some (.int .i64 u) := O10.out.cell 1
  go_wp2_with fail
  go_ret
  exact ⟨rfl, B10.out⟩
end Go.Proofs.Ythmebjbaigiehaa
