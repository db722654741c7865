/- Contract of the law GaugeReadSpec: it returns true for every input. -/
import Derived.Test.YtfddlodfmmnanaaSane
namespace Go.Proofs.Ytfddlodfmmnanaa
open Go.RowKit

set_option maxRecDepth 100000 in
set_option maxHeartbeats 4000000 in
theorem read_4 (no rc cl dr si : Int) (A : Option Addr) (n c B : Nat) (S F : Nat → Int) (s h f : Int) (w : World) (hm : n ≤ 9223372036854775807) (hB : B ≤ w.heap.size) (hr : RdP w B A n S F) :
    Calls Try.prog 4 #[gv no rc cl dr si A n c, .int .i64 s, .int .i64 h, .int .i64 f] w fun e w' => e = .returned (.bool true) ∧ Below w.heap.size w w' := by
  have HR := Lib.hid hr
  clear hr
  obtain ⟨E, hE⟩ : ∃ E, E = rdE (chk no rc cl dr si n S F) s h := ⟨_, rfl⟩
  obtain ⟨a, ha⟩ : ∃ a, a = flR E (fLo S F n (max 0 (s - errN cl dr si h))) := ⟨_, rfl⟩
  obtain ⟨b, hb⟩ : ∃ b, b = flR E (fHi S F n (min 1048576 (s + errN cl dr si h))) := ⟨_, rfl⟩
  obtain ⟨E', hE'⟩ : ∃ E', E' = stE (chk no rc cl dr si n S F) f := ⟨_, rfl⟩
  obtain ⟨p, hp⟩ : ∃ p : Int, p = if E' = 0 ∧ stLo S F n f < stHi S F n f then (stLo S F n f : Int) else 0 := ⟨_, rfl⟩
  obtain ⟨q, hq⟩ : ∃ q : Int, q = if E' = 0 ∧ stLo S F n f < stHi S F n f then (stHi S F n f : Int) - 1 else 0 := ⟨_, rfl⟩
  obtain ⟨ok, hok⟩ : ∃ ok, ok = decide (E' = 0 ∧ stLo S F n f < stHi S F n f) := ⟨_, rfl⟩
  have HX : Hid (∀ W, RdP W B A n S F → B ≤ W.heap.size → Calls Try.prog 15 #[gv no rc cl dr si A n c, .int .i64 s, .int .i64 h] W fun e w' => e = .returned (.tuple #[.agg #[.int .i64 a, .int .i64 b], .int .i64 E]) ∧ Below W.heap.size W w') :=
    Lib.hid fun W h1 h2 => by rw [ha, hb, hE]; exact Read_15 no rc cl dr si A n c B S F s h W hm h2 (fun _ => h1)
  have HY : Hid (∀ W, RdP W B A n S F → B ≤ W.heap.size → Calls Try.prog 16 #[gv no rc cl dr si A n c, .int .i64 s, .int .i64 h] W fun e w' => e = .returned (.tuple #[.agg #[.int .i64 a, .int .i64 b], .int .i64 E]) ∧ Below W.heap.size W w') :=
    Lib.hid fun W h1 h2 => by rw [ha, hb, hE]; exact ref_Read_16 no rc cl dr si A n c B S F s h W hm h2 (fun _ => h1)
  have HS : Hid (∀ W, RdP W B A n S F → B ≤ W.heap.size → Calls Try.prog 17 #[gv no rc cl dr si A n c, .int .i64 f] W fun e w' => e = .returned (.tuple #[.agg #[.int .i64 p, .int .i64 q], .bool ok, .int .i64 E']) ∧ Below W.heap.size W w') :=
    Lib.hid fun W h1 h2 => by rw [hp, hq, hok, hE']; exact Stage_17 no rc cl dr si A n c B S F f W hm h2 (fun _ => h1)
  have HT : Hid (∀ W, RdP W B A n S F → B ≤ W.heap.size → Calls Try.prog 18 #[gv no rc cl dr si A n c, .int .i64 f] W fun e w' => e = .returned (.tuple #[.agg #[.int .i64 p, .int .i64 q], .bool ok, .int .i64 E']) ∧ Below W.heap.size W w') :=
    Lib.hid fun W h1 h2 => by rw [hp, hq, hok, hE']; exact ref_Stage_18 no rc cl dr si A n c B S F f W hm h2 (fun _ => h1)
  clear hE ha hb hE' hp hq hok
  unfold gv at HX HY HS HT ⊢
  go_enter Try.func4, Try.ntmps4
  go_wp2_with fail
  obtain ⟨u0, hu0⟩ : ∃ u0, u0 = w.alloc (.cells #[.int .i64 no, .int .i64 rc, .int .i64 cl, .int .i64 dr, .int .i64 si, .slice A n c] 24) := ⟨_, rfl⟩
  have G0 : Hid (Blk u0 w.heap.size 24 #[.int .i64 no, .int .i64 rc, .int .i64 cl, .int .i64 dr, .int .i64 si, .slice A n c]) := Lib.hid (hu0 ▸ Blk.new _ _ _)
  have B0 : Hid (Below w.heap.size w u0) := Lib.hid (hu0 ▸ below_alloc _ _)
  rw [← hu0]
  clear hu0
  have hs0 := G0.out.lt
  have hz0 := B0.out.size
  refine (sane_10 _).mono ?_
  rintro e v0 ⟨rfl, hb⟩
  have B1 := Lib.hid (B0.out.trans (hb.mono (by omega)))
  have G1 := Lib.hid (G0.out.below hb G0.out.lt)
  have hs1 := G1.out.lt
  have hz1 := B1.out.size
  clear hb B0 G0 hs0 hz0
  have cg0 : v0.cell? ⟨w.heap.size, 0, none⟩ = some (.int .i64 no) := G1.out.cell 0
  have cg1 : v0.cell? ⟨w.heap.size, 1, none⟩ = some (.int .i64 rc) := G1.out.cell 1
  have cg2 : v0.cell? ⟨w.heap.size, 2, none⟩ = some (.int .i64 cl) := G1.out.cell 2
  have cg3 : v0.cell? ⟨w.heap.size, 3, none⟩ = some (.int .i64 dr) := G1.out.cell 3
  have cg4 : v0.cell? ⟨w.heap.size, 4, none⟩ = some (.int .i64 si) := G1.out.cell 4
  have cg5 : v0.cell? ⟨w.heap.size, 5, none⟩ = some (.slice A n c) := G1.out.cell 5
  go_wp2_with fail
  refine (HX.out _ (HR.out.below (B1.out.mono hB)) (by omega)).mono ?_
  rintro e v1 ⟨rfl, hb⟩
  clear cg0 cg1 cg2 cg3 cg4 cg5
  have B2 := Lib.hid (B1.out.trans (hb.mono (by omega)))
  have G2 := Lib.hid (G1.out.below hb G1.out.lt)
  have hs2 := G2.out.lt
  have hz2 := B2.out.size
  clear hb B1 G1 hs1 hz1
  go_upto_region 4 with fail
  obtain ⟨bv1, hbx⟩ : ∃ zz, zz = v1.alloc (.cells #[.int .i64 a, .int .i64 b] 27) := ⟨_, rfl⟩
  rw [← hbx]
  have hb : Below v1.heap.size v1 bv1 := hbx ▸ below_alloc _ _
  have NX := Lib.hid (show Blk bv1 v1.heap.size 27 #[.int .i64 a, .int .i64 b] from hbx ▸ Blk.new _ _ _)
  clear hbx
  have B3 := Lib.hid (B2.out.trans (hb.mono (by omega)))
  have G3 := Lib.hid (G2.out.below hb G2.out.lt)
  have hs3 := G3.out.lt
  have hz3 := B3.out.size
  clear hb B2 G2 hs2 hz2
  have X3 := NX
  clear NX
  have cg0 : bv1.cell? ⟨w.heap.size, 0, none⟩ = some (.int .i64 no) := G3.out.cell 0
  have cg1 : bv1.cell? ⟨w.heap.size, 1, none⟩ = some (.int .i64 rc) := G3.out.cell 1
  have cg2 : bv1.cell? ⟨w.heap.size, 2, none⟩ = some (.int .i64 cl) := G3.out.cell 2
  have cg3 : bv1.cell? ⟨w.heap.size, 3, none⟩ = some (.int .i64 dr) := G3.out.cell 3
  have cg4 : bv1.cell? ⟨w.heap.size, 4, none⟩ = some (.int .i64 si) := G3.out.cell 4
  have cg5 : bv1.cell? ⟨w.heap.size, 5, none⟩ = some (.slice A n c) := G3.out.cell 5
  go_wp2_with fail
  refine (HY.out _ (HR.out.below (B3.out.mono hB)) (by omega)).mono ?_
  rintro e v2 ⟨rfl, hb⟩
  clear cg0 cg1 cg2 cg3 cg4 cg5
  have B4 := Lib.hid (B3.out.trans (hb.mono (by omega)))
  have G4 := Lib.hid (G3.out.below hb G3.out.lt)
  have X4 := Lib.hid (X3.out.below hb X3.out.lt)
  have hs4 := G4.out.lt
  have hz4 := B4.out.size
  clear hb B3 G3 hs3 hz3 X3
  go_upto_region 5 with fail
  obtain ⟨bv2, hbx⟩ : ∃ zz, zz = v2.alloc (.cells #[.int .i64 a, .int .i64 b] 27) := ⟨_, rfl⟩
  rw [← hbx]
  have hb : Below v2.heap.size v2 bv2 := hbx ▸ below_alloc _ _
  have NY := Lib.hid (show Blk bv2 v2.heap.size 27 #[.int .i64 a, .int .i64 b] from hbx ▸ Blk.new _ _ _)
  clear hbx
  have B5 := Lib.hid (B4.out.trans (hb.mono (by omega)))
  have G5 := Lib.hid (G4.out.below hb G4.out.lt)
  have X5 := Lib.hid (X4.out.below hb X4.out.lt)
  have hs5 := G5.out.lt
  have hz5 := B5.out.size
  clear hb B4 G4 hs4 hz4 X4
  have Y5 := NY
  clear NY
  have cg0 : bv2.cell? ⟨w.heap.size, 0, none⟩ = some (.int .i64 no) := G5.out.cell 0
  have cg1 : bv2.cell? ⟨w.heap.size, 1, none⟩ = some (.int .i64 rc) := G5.out.cell 1
  have cg2 : bv2.cell? ⟨w.heap.size, 2, none⟩ = some (.int .i64 cl) := G5.out.cell 2
  have cg3 : bv2.cell? ⟨w.heap.size, 3, none⟩ = some (.int .i64 dr) := G5.out.cell 3
  have cg4 : bv2.cell? ⟨w.heap.size, 4, none⟩ = some (.int .i64 si) := G5.out.cell 4
  have cg5 : bv2.cell? ⟨w.heap.size, 5, none⟩ = some (.slice A n c) := G5.out.cell 5
  go_wp2_with fail
  refine (HS.out _ (HR.out.below (B5.out.mono hB)) (by omega)).mono ?_
  rintro e v3 ⟨rfl, hb⟩
  clear cg0 cg1 cg2 cg3 cg4 cg5
  have B6 := Lib.hid (B5.out.trans (hb.mono (by omega)))
  have G6 := Lib.hid (G5.out.below hb G5.out.lt)
  have X6 := Lib.hid (X5.out.below hb X5.out.lt)
  have Y6 := Lib.hid (Y5.out.below hb Y5.out.lt)
  have hs6 := G6.out.lt
  have hz6 := B6.out.size
  clear hb B5 G5 hs5 hz5 X5 Y5
  go_upto_region 6 with fail
  obtain ⟨bv3, hbx⟩ : ∃ zz, zz = v3.alloc (.cells #[.int .i64 p, .int .i64 q] 27) := ⟨_, rfl⟩
  rw [← hbx]
  have hb : Below v3.heap.size v3 bv3 := hbx ▸ below_alloc _ _
  have NP := Lib.hid (show Blk bv3 v3.heap.size 27 #[.int .i64 p, .int .i64 q] from hbx ▸ Blk.new _ _ _)
  clear hbx
  have B7 := Lib.hid (B6.out.trans (hb.mono (by omega)))
  have G7 := Lib.hid (G6.out.below hb G6.out.lt)
  have X7 := Lib.hid (X6.out.below hb X6.out.lt)
  have Y7 := Lib.hid (Y6.out.below hb Y6.out.lt)
  have hs7 := G7.out.lt
  have hz7 := B7.out.size
  clear hb B6 G6 hs6 hz6 X6 Y6
  have P7 := NP
  clear NP
  have cg0 : bv3.cell? ⟨w.heap.size, 0, none⟩ = some (.int .i64 no) := G7.out.cell 0
  have cg1 : bv3.cell? ⟨w.heap.size, 1, none⟩ = some (.int .i64 rc) := G7.out.cell 1
  have cg2 : bv3.cell? ⟨w.heap.size, 2, none⟩ = some (.int .i64 cl) := G7.out.cell 2
  have cg3 : bv3.cell? ⟨w.heap.size, 3, none⟩ = some (.int .i64 dr) := G7.out.cell 3
  have cg4 : bv3.cell? ⟨w.heap.size, 4, none⟩ = some (.int .i64 si) := G7.out.cell 4
  have cg5 : bv3.cell? ⟨w.heap.size, 5, none⟩ = some (.slice A n c) := G7.out.cell 5
  go_wp2_with fail
  refine (HT.out _ (HR.out.below (B7.out.mono hB)) (by omega)).mono ?_
  rintro e v4 ⟨rfl, hb⟩
  clear cg0 cg1 cg2 cg3 cg4 cg5
  have B8 := Lib.hid (B7.out.trans (hb.mono (by omega)))
  have G8 := Lib.hid (G7.out.below hb G7.out.lt)
  have X8 := Lib.hid (X7.out.below hb X7.out.lt)
  have Y8 := Lib.hid (Y7.out.below hb Y7.out.lt)
  have P8 := Lib.hid (P7.out.below hb P7.out.lt)
  have hs8 := G8.out.lt
  have hz8 := B8.out.size
  clear hb B7 G7 hs7 hz7 X7 Y7 P7
  go_upto_region 7 with fail
  obtain ⟨bv4, hbx⟩ : ∃ zz, zz = v4.alloc (.cells #[.int .i64 p, .int .i64 q] 27) := ⟨_, rfl⟩
  rw [← hbx]
  have hb : Below v4.heap.size v4 bv4 := hbx ▸ below_alloc _ _
  have NQ := Lib.hid (show Blk bv4 v4.heap.size 27 #[.int .i64 p, .int .i64 q] from hbx ▸ Blk.new _ _ _)
  clear hbx
  have B9 := Lib.hid (B8.out.trans (hb.mono (by omega)))
  have G9 := Lib.hid (G8.out.below hb G8.out.lt)
  have X9 := Lib.hid (X8.out.below hb X8.out.lt)
  have Y9 := Lib.hid (Y8.out.below hb Y8.out.lt)
  have P9 := Lib.hid (P8.out.below hb P8.out.lt)
  have hs9 := G9.out.lt
  have hz9 := B9.out.size
  clear hb B8 G8 hs8 hz8 X8 Y8 P8
  have Q9 := NQ
  clear NQ
  have cx0 : bv4.cell? ⟨v1.heap.size, 0, none⟩ = some (.int .i64 a) := X9.out.cell 0
  have cx1 : bv4.cell? ⟨v1.heap.size, 1, none⟩ = some (.int .i64 b) := X9.out.cell 1
  have cy0 : bv4.cell? ⟨v2.heap.size, 0, none⟩ = some (.int .i64 a) := Y9.out.cell 0
  have cy1 : bv4.cell? ⟨v2.heap.size, 1, none⟩ = some (.int .i64 b) := Y9.out.cell 1
  have cp0 : bv4.cell? ⟨v3.heap.size, 0, none⟩ = some (.int .i64 p) := P9.out.cell 0
  have cp1 : bv4.cell? ⟨v3.heap.size, 1, none⟩ = some (.int .i64 q) := P9.out.cell 1
  have cq0 : bv4.cell? ⟨v4.heap.size, 0, none⟩ = some (.int .i64 p) := Q9.out.cell 0
  have cq1 : bv4.cell? ⟨v4.heap.size, 1, none⟩ = some (.int .i64 q) := Q9.out.cell 1
  go_wp2_with fail
  go_ret
  exact ⟨rfl, B9.out⟩
end Go.Proofs.Ytfddlodfmmnanaa
