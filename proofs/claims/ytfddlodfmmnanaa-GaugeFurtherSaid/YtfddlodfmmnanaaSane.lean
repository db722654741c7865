/- The law package's examples hold: the function that checks them returns true. No condition. -/
import Derived.Test.YtfddlodfmmnanaaRead
import Derived.Laws.MakeOwn
namespace Go.Proofs.Ytfddlodfmmnanaa
open Go.RowKit

def two (a b : Int) : Nat → Int | 0 => a | _ => b
theorem pts_cells (a b c d : Int) : ∀ j, j < #[Value.int .i64 a, Value.int .i64 b, Value.int .i64 c, Value.int .i64 d].size →
    #[Value.int .i64 a, Value.int .i64 b, Value.int .i64 c, Value.int .i64 d][j]? = some (ptc (two a c) (two b d) j) := by
  intro j hj
  match j, hj with
  | 0, _ => rfl
  | 1, _ => rfl
  | 2, _ => rfl
  | 3, _ => rfl
theorem pt_cells (a b : Int) : ∀ j, j < #[Value.int .i64 a, Value.int .i64 b].size → #[Value.int .i64 a, Value.int .i64 b][j]? = some (ptc (fun _ => a) (fun _ => b) j) := by
  intro j hj
  match j, hj with
  | 0, _ => rfl
  | 1, _ => rfl
theorem info39 : (Try.prog.info? 39).map (fun i => (i.zero, i.size, i.bytes)) = some (some (.agg #[.int .i64 0, .int .i64 0]), 2, 16) := by kernel_rfl
/-- make([]api.Rating, 65) -/
theorem make65 : ∃ C : Array Value, ∀ w : World, (Instr.makeSlice 22 (.int .i64 65) (.int .i64 65)).run Try.prog w = .ok (.slice (some ⟨w.heap.size, 0, none⟩) 65 65) (w.alloc (.cells C 39)) := by
  obtain ⟨i0, hi, hz0, hz1, hz2⟩ := info_parts info39
  exact ⟨_, fun w => run_make (P := Try.prog) w 22 39 i0 _ Try.underlying22 hi hz0 .i64 .i64 65 65 (by decide) (by decide) (by rw [hz2]; decide) (by decide)⟩

theorem stLo_eq {S F : Nat → Int} {n : Nat} (hrow : rowsB S F n = true) (hn : n ≠ 0) (q : Int) (k : Nat) (hk : k ≤ 1048577) (h1 : ∀ i : Nat, i + 1 = k → fHi S F n i < q) (h2 : k < 1048577 → q ≤ fHi S F n k) : stLo S F n q = k := by
  have hl := stLo_le S F n q
  have a : stLo S F n q ≤ k := by
    by_cases e : k < 1048577
    · have := stLo_test hrow hn q e
      simp [h2 e] at this
      exact this
    · omega
  have b : k ≤ stLo S F n q := by
    by_cases e : k = 0
    · omega
    · obtain ⟨i, rfl⟩ : ∃ i, k = i + 1 := ⟨k - 1, by omega⟩
      have := stLo_test hrow hn q (i := i) (by omega)
      have h3 := h1 i rfl
      have h4 : ¬ q ≤ fHi S F n i := by omega
      simp [h4] at this
      omega
  omega
theorem stHi_eq {S F : Nat → Int} {n : Nat} (hrow : rowsB S F n = true) (hn : n ≠ 0) (q : Int) (k : Nat) (hk : k ≤ 1048577) (h1 : ∀ i : Nat, i + 1 = k → fLo S F n i ≤ q) (h2 : k < 1048577 → q < fLo S F n k) : stHi S F n q = k := by
  have hl := stHi_le S F n q
  have a : stHi S F n q ≤ k := by
    by_cases e : k < 1048577
    · have := stHi_test hrow hn q e
      simp [h2 e] at this
      exact this
    · omega
  have b : k ≤ stHi S F n q := by
    by_cases e : k = 0
    · omega
    · obtain ⟨i, rfl⟩ : ∃ i, k = i + 1 := ⟨k - 1, by omega⟩
      have := stHi_test hrow hn q (i := i) (by omega)
      have h3 := h1 i rfl
      have h4 : ¬ q < fLo S F n i := by omega
      simp [h4] at this
      omega
  omega
theorem row1 : rowsB (two 0 10) (two 0 25) 2 = true := by decide
theorem row2 : rowsB (two 0 1) (two 0 9) 2 = true := by decide
theorem row3 : rowsB (fun _ => 5) (fun _ => 9) 1 = true := by decide
theorem k1 : chk 0 0 1 1 10 2 (two 0 10) (two 0 25) = 0 := by decide
theorem k2 : chk 0 0 0 0 0 2 (two 0 1) (two 0 9) = 0 := by decide
theorem k3 : chk 0 0 0 0 0 1 (fun _ => 5) (fun _ => 9) = 0 := by decide
theorem k4 : chk 0 0 0 0 0 0 (fun _ => 0) (fun _ => 0) = 240 := by decide
theorem k5 : chk 0 0 0 0 0 65 (fun _ => 0) (fun _ => 0) = 2 := by decide
theorem flat_at (i : Int) : fLo (fun _ => 5) (fun _ => 9) 1 i = 9 ∧ fHi (fun _ => 5) (fun _ => 9) 1 i = 9 := by
  unfold fLo fHi idx idx
  constructor <;> (split <;> first | rfl | (split <;> first | rfl | simp))
theorem s1lo : stLo (two 0 10) (two 0 25) 2 7 = 3 := stLo_eq row1 (by decide) _ _ (by decide) (fun i h => by have h2 : i = 2 := (by omega); subst h2; decide) (fun _ => by decide)
theorem s1hi : stHi (two 0 10) (two 0 25) 2 7 = 4 := stHi_eq row1 (by decide) _ _ (by decide) (fun i h => by have h2 : i = 3 := (by omega); subst h2; decide) (fun _ => by decide)
theorem s2lo : stLo (two 0 1) (two 0 9) 2 5 = 1 := stLo_eq row2 (by decide) _ _ (by decide) (fun i h => by have h2 : i = 0 := (by omega); subst h2; decide) (fun _ => by decide)
theorem s2hi : stHi (two 0 1) (two 0 9) 2 5 = 1 := stHi_eq row2 (by decide) _ _ (by decide) (fun i h => by have h2 : i = 0 := (by omega); subst h2; decide) (fun _ => by decide)
theorem s3lo : stLo (fun _ => 5) (fun _ => 9) 1 9 = 0 := stLo_eq row3 (by decide) _ _ (by decide) (fun i h => by omega) (fun _ => by rw [(flat_at _).2]; decide)
theorem s3hi : stHi (fun _ => 5) (fun _ => 9) 1 9 = 1048577 := stHi_eq row3 (by decide) _ _ (by decide) (fun i h => by rw [(flat_at _).1]; decide) (fun h => absurd h (by decide))
theorem v1 : rngE (flE (chk 0 0 1 1 10 2 (two 0 10) (two 0 25)) 3) (fLo (two 0 10) (two 0 25) 2 3) (fHi (two 0 10) (two 0 25) 2 3) = .tuple #[.agg #[.int .i64 7, .int .i64 8], .int .i64 0] := by rfl
theorem v2 : rngE (rdE (chk 0 0 1 1 10 2 (two 0 10) (two 0 25)) 3 33) (fLo (two 0 10) (two 0 25) 2 (max 0 (3 - errN 1 1 10 33))) (fHi (two 0 10) (two 0 25) 2 (min 1048576 (3 + errN 1 1 10 33))) = .tuple #[.agg #[.int .i64 5, .int .i64 10], .int .i64 0] := by rfl
theorem v3 : rngE (rdE (chk 0 0 1 1 10 2 (two 0 10) (two 0 25)) 3 34) (fLo (two 0 10) (two 0 25) 2 (max 0 (3 - errN 1 1 10 34))) (fHi (two 0 10) (two 0 25) 2 (min 1048576 (3 + errN 1 1 10 34))) = .tuple #[.agg #[.int .i64 2, .int .i64 13], .int .i64 0] := by rfl
theorem v4 : rngO (stE (chk 0 0 1 1 10 2 (two 0 10) (two 0 25)) 7) (stLo (two 0 10) (two 0 25) 2 7) (stHi (two 0 10) (two 0 25) 2 7) = .tuple #[.agg #[.int .i64 3, .int .i64 3], .bool true, .int .i64 0] := by rw [s1lo, s1hi]; rfl
theorem v5 : rngO (stE (chk 0 0 0 0 0 2 (two 0 1) (two 0 9)) 5) (stLo (two 0 1) (two 0 9) 2 5) (stHi (two 0 1) (two 0 9) 2 5) = .tuple #[.agg #[.int .i64 0, .int .i64 0], .bool false, .int .i64 0] := by rw [s2lo, s2hi]; rfl
theorem v6 : rngO (stE (chk 0 0 0 0 0 1 (fun _ => 5) (fun _ => 9)) 9) (stLo (fun _ => 5) (fun _ => 9) 1 9) (stHi (fun _ => 5) (fun _ => 9) 1 9) = .tuple #[.agg #[.int .i64 0, .int .i64 1048576], .bool true, .int .i64 0] := by rw [s3lo, s3hi]; rfl
theorem v7 : rngE (flE (chk 0 0 0 0 0 1 (fun _ => 5) (fun _ => 9)) 0) (fLo (fun _ => 5) (fun _ => 9) 1 0) (fHi (fun _ => 5) (fun _ => 9) 1 0) = .tuple #[.agg #[.int .i64 9, .int .i64 9], .int .i64 0] := by rfl
theorem v8 : rngE (flE (chk 0 0 1 1 10 2 (two 0 10) (two 0 25)) (-1)) (fLo (two 0 10) (two 0 25) 2 (-1)) (fHi (two 0 10) (two 0 25) 2 (-1)) = .tuple #[.agg #[.int .i64 0, .int .i64 0], .int .i64 1] := by rfl

theorem Blk.new' {w : World} {k : Nat} {t : TypeId} {cs : Array Value} (h : k = w.heap.size) : Blk (w.alloc (.cells cs t)) k t cs := h ▸ Blk.new w t cs

set_option maxRecDepth 100000 in
set_option maxHeartbeats 4000000 in
theorem sane_10 (w : World) : Calls Try.prog 10 #[] w fun e w' => e = .returned (.bool true) ∧ Below w.heap.size w w' := by
  have V1 := Lib.hid v1; have V2 := Lib.hid v2; have V3 := Lib.hid v3; have V4 := Lib.hid v4; have V5 := Lib.hid v5; have V6 := Lib.hid v6; have V7 := Lib.hid v7; have V8 := Lib.hid v8
  have K1 := Lib.hid k1; have K4 := Lib.hid k4; have K5 := Lib.hid k5
  obtain ⟨C65, hmk⟩ := make65
  go_enter Try.func10, Try.ntmps10
  go_upto_region 4 with fail
  obtain ⟨w0, hw0⟩ : ∃ w0, w0 = (((((w.alloc (.cells #[.int .i64 0, .int .i64 0, .int .i64 10, .int .i64 25] 39)).alloc (.cells #[.int .i64 0, .int .i64 0, .int .i64 1, .int .i64 1, .int .i64 10, .slice (some ⟨w.heap.size, 0, none⟩) 2 2] 24)).alloc (.cells #[.int .i64 0, .int .i64 0, .int .i64 1, .int .i64 9] 39)).alloc (.cells #[.int .i64 0, .int .i64 0, .int .i64 0, .int .i64 0, .int .i64 0, .slice (some ⟨w.heap.size + 1 + 1, 0, none⟩) 2 2] 24)).alloc (.cells #[.int .i64 5, .int .i64 9] 39)).alloc (.cells #[.int .i64 0, .int .i64 0, .int .i64 0, .int .i64 0, .int .i64 0, .slice (some ⟨w.heap.size + 1 + 1 + 1 + 1, 0, none⟩) 1 1] 24) := ⟨_, rfl⟩
  have hsz0 : w0.heap.size = w.heap.size + 1 + 1 + 1 + 1 + 1 + 1 := by rw [hw0]; simp
  have T1 : Hid (Blk w0 (w.heap.size) 39 #[.int .i64 0, .int .i64 0, .int .i64 10, .int .i64 25]) := Lib.hid (by rw [hw0]; exact (((((Blk.new' (by simp)).alloc _).alloc _).alloc _).alloc _).alloc _)
  have g1 : Blk w0 (w.heap.size + 1) 24 #[.int .i64 0, .int .i64 0, .int .i64 1, .int .i64 1, .int .i64 10, .slice (some ⟨w.heap.size, 0, none⟩) 2 2] := (by rw [hw0]; exact ((((Blk.new' (by simp)).alloc _).alloc _).alloc _).alloc _)
  have GB1 := Lib.hid g1
  clear g1
  have T2 : Hid (Blk w0 (w.heap.size + 1 + 1) 39 #[.int .i64 0, .int .i64 0, .int .i64 1, .int .i64 9]) := Lib.hid (by rw [hw0]; exact (((Blk.new' (by simp)).alloc _).alloc _).alloc _)
  have g2 : Blk w0 (w.heap.size + 1 + 1 + 1) 24 #[.int .i64 0, .int .i64 0, .int .i64 0, .int .i64 0, .int .i64 0, .slice (some ⟨w.heap.size + 1 + 1, 0, none⟩) 2 2] := (by rw [hw0]; exact ((Blk.new' (by simp)).alloc _).alloc _)
  have GB2 := Lib.hid g2
  clear g2
  have T3 : Hid (Blk w0 (w.heap.size + 1 + 1 + 1 + 1) 39 #[.int .i64 5, .int .i64 9]) := Lib.hid (by rw [hw0]; exact (Blk.new' (by simp)).alloc _)
  have g3 : Blk w0 (w.heap.size + 1 + 1 + 1 + 1 + 1) 24 #[.int .i64 0, .int .i64 0, .int .i64 0, .int .i64 0, .int .i64 0, .slice (some ⟨w.heap.size + 1 + 1 + 1 + 1, 0, none⟩) 1 1] := (by rw [hw0]; exact Blk.new' (by simp))
  have GB3 := Lib.hid g3
  clear g3
  have HB0 : Hid (Below w.heap.size w w0) := Lib.hid (by rw [hw0]; (repeat (first | exact Below.refl _ _ | exact below_alloc _ _ | refine Below.alloc ?_ (by simp; omega) _ | refine Below.alloc ?_ (by simp) _)))
  rw [← hw0]
  clear hw0
  have hs0 : w.heap.size + 1 + 1 + 1 + 1 + 1 + 1 ≤ w0.heap.size := by omega
  clear hsz0
  have RD1 : Hid (RdP w0 w0.heap.size (some ⟨w.heap.size, 0, none⟩) 2 (two 0 10) (two 0 25)) := Lib.hid (T1.out.rd _ (pts_cells 0 0 10 25))
  have RD2 : Hid (RdP w0 w0.heap.size (some ⟨w.heap.size + 1 + 1, 0, none⟩) 2 (two 0 1) (two 0 9)) := Lib.hid (T2.out.rd _ (pts_cells 0 0 1 9))
  have RD3 : Hid (RdP w0 w0.heap.size (some ⟨w.heap.size + 1 + 1 + 1 + 1, 0, none⟩) 1 (fun _ => 5) (fun _ => 9)) := Lib.hid (T3.out.rd _ (pt_cells 5 9))
  clear T1 T2 T3
  have B0 : Hid (Below w0.heap.size w0 w0) := Lib.hid (Below.refl _ _)
  have c10 : w0.cell? ⟨w.heap.size + 1, 0, none⟩ = some (.int .i64 0) := (GB1.out.below B0.out (by omega)).cell 0
  have c11 : w0.cell? ⟨w.heap.size + 1, 1, none⟩ = some (.int .i64 0) := (GB1.out.below B0.out (by omega)).cell 1
  have c12 : w0.cell? ⟨w.heap.size + 1, 2, none⟩ = some (.int .i64 1) := (GB1.out.below B0.out (by omega)).cell 2
  have c13 : w0.cell? ⟨w.heap.size + 1, 3, none⟩ = some (.int .i64 1) := (GB1.out.below B0.out (by omega)).cell 3
  have c14 : w0.cell? ⟨w.heap.size + 1, 4, none⟩ = some (.int .i64 10) := (GB1.out.below B0.out (by omega)).cell 4
  have c15 : w0.cell? ⟨w.heap.size + 1, 5, none⟩ = some (.slice (some ⟨w.heap.size, 0, none⟩) 2 2) := (GB1.out.below B0.out (by omega)).cell 5
  go_wp2_with fail
  refine (Flow_11 0 0 1 1 10 (some ⟨w.heap.size, 0, none⟩) 2 2 w0.heap.size (two 0 10) (two 0 25) 3 _ (by decide) B0.out.size (fun _ => RD1.out.below B0.out)).mono ?_
  rintro e w1 ⟨rfl, hb⟩
  rw [V1.out]
  clear c10 c11 c12 c13 c14 c15
  go_upto_region 5 with fail
  obtain ⟨u1, hu⟩ : ∃ u, u = w1.alloc (.cells #[.int .i64 7, .int .i64 8] 27) := ⟨_, rfl⟩
  rw [← hu]
  have hbu : Below w0.heap.size w0 u1 := hb.trans (by rw [hu]; exact Below.mono (below_alloc _ _) hb.size)
  have R0_1 : Hid (Blk u1 w1.heap.size 27 #[.int .i64 7, .int .i64 8]) := Lib.hid (hu ▸ Blk.new _ _ _)
  have B1 := Lib.hid (B0.out.trans (hbu.mono B0.out.size))
  have hs1 := B1.out.size
  clear hb hu hbu
  have c10 : u1.cell? ⟨w.heap.size + 1, 0, none⟩ = some (.int .i64 0) := (GB1.out.below B1.out (by omega)).cell 0
  have c11 : u1.cell? ⟨w.heap.size + 1, 1, none⟩ = some (.int .i64 0) := (GB1.out.below B1.out (by omega)).cell 1
  have c12 : u1.cell? ⟨w.heap.size + 1, 2, none⟩ = some (.int .i64 1) := (GB1.out.below B1.out (by omega)).cell 2
  have c13 : u1.cell? ⟨w.heap.size + 1, 3, none⟩ = some (.int .i64 1) := (GB1.out.below B1.out (by omega)).cell 3
  have c14 : u1.cell? ⟨w.heap.size + 1, 4, none⟩ = some (.int .i64 10) := (GB1.out.below B1.out (by omega)).cell 4
  have c15 : u1.cell? ⟨w.heap.size + 1, 5, none⟩ = some (.slice (some ⟨w.heap.size, 0, none⟩) 2 2) := (GB1.out.below B1.out (by omega)).cell 5
  go_wp2_with fail
  refine (Read_15 0 0 1 1 10 (some ⟨w.heap.size, 0, none⟩) 2 2 w0.heap.size (two 0 10) (two 0 25) 3 33 _ (by decide) B1.out.size (fun _ => RD1.out.below B1.out)).mono ?_
  rintro e w2 ⟨rfl, hb⟩
  rw [V2.out]
  clear c10 c11 c12 c13 c14 c15
  go_upto_region 6 with fail
  obtain ⟨u2, hu⟩ : ∃ u, u = w2.alloc (.cells #[.int .i64 5, .int .i64 10] 27) := ⟨_, rfl⟩
  rw [← hu]
  have hbu : Below u1.heap.size u1 u2 := hb.trans (by rw [hu]; exact Below.mono (below_alloc _ _) hb.size)
  have R1_2 : Hid (Blk u2 w2.heap.size 27 #[.int .i64 5, .int .i64 10]) := Lib.hid (hu ▸ Blk.new _ _ _)
  have B2 := Lib.hid (B1.out.trans (hbu.mono B1.out.size))
  have R0_2 := Lib.hid (R0_1.out.below hbu R0_1.out.lt)
  clear R0_1
  have hs2 := B2.out.size
  clear hb hu hbu
  have c10 : u2.cell? ⟨w.heap.size + 1, 0, none⟩ = some (.int .i64 0) := (GB1.out.below B2.out (by omega)).cell 0
  have c11 : u2.cell? ⟨w.heap.size + 1, 1, none⟩ = some (.int .i64 0) := (GB1.out.below B2.out (by omega)).cell 1
  have c12 : u2.cell? ⟨w.heap.size + 1, 2, none⟩ = some (.int .i64 1) := (GB1.out.below B2.out (by omega)).cell 2
  have c13 : u2.cell? ⟨w.heap.size + 1, 3, none⟩ = some (.int .i64 1) := (GB1.out.below B2.out (by omega)).cell 3
  have c14 : u2.cell? ⟨w.heap.size + 1, 4, none⟩ = some (.int .i64 10) := (GB1.out.below B2.out (by omega)).cell 4
  have c15 : u2.cell? ⟨w.heap.size + 1, 5, none⟩ = some (.slice (some ⟨w.heap.size, 0, none⟩) 2 2) := (GB1.out.below B2.out (by omega)).cell 5
  go_wp2_with fail
  refine (Read_15 0 0 1 1 10 (some ⟨w.heap.size, 0, none⟩) 2 2 w0.heap.size (two 0 10) (two 0 25) 3 34 _ (by decide) B2.out.size (fun _ => RD1.out.below B2.out)).mono ?_
  rintro e w3 ⟨rfl, hb⟩
  rw [V3.out]
  clear c10 c11 c12 c13 c14 c15
  go_upto_region 7 with fail
  obtain ⟨u3, hu⟩ : ∃ u, u = w3.alloc (.cells #[.int .i64 2, .int .i64 13] 27) := ⟨_, rfl⟩
  rw [← hu]
  have hbu : Below u2.heap.size u2 u3 := hb.trans (by rw [hu]; exact Below.mono (below_alloc _ _) hb.size)
  have R2_3 : Hid (Blk u3 w3.heap.size 27 #[.int .i64 2, .int .i64 13]) := Lib.hid (hu ▸ Blk.new _ _ _)
  have B3 := Lib.hid (B2.out.trans (hbu.mono B2.out.size))
  have R0_3 := Lib.hid (R0_2.out.below hbu R0_2.out.lt)
  have R1_3 := Lib.hid (R1_2.out.below hbu R1_2.out.lt)
  clear R0_2 R1_2
  have hs3 := B3.out.size
  clear hb hu hbu
  have c10 : u3.cell? ⟨w.heap.size + 1, 0, none⟩ = some (.int .i64 0) := (GB1.out.below B3.out (by omega)).cell 0
  have c11 : u3.cell? ⟨w.heap.size + 1, 1, none⟩ = some (.int .i64 0) := (GB1.out.below B3.out (by omega)).cell 1
  have c12 : u3.cell? ⟨w.heap.size + 1, 2, none⟩ = some (.int .i64 1) := (GB1.out.below B3.out (by omega)).cell 2
  have c13 : u3.cell? ⟨w.heap.size + 1, 3, none⟩ = some (.int .i64 1) := (GB1.out.below B3.out (by omega)).cell 3
  have c14 : u3.cell? ⟨w.heap.size + 1, 4, none⟩ = some (.int .i64 10) := (GB1.out.below B3.out (by omega)).cell 4
  have c15 : u3.cell? ⟨w.heap.size + 1, 5, none⟩ = some (.slice (some ⟨w.heap.size, 0, none⟩) 2 2) := (GB1.out.below B3.out (by omega)).cell 5
  go_wp2_with fail
  refine (Stage_17 0 0 1 1 10 (some ⟨w.heap.size, 0, none⟩) 2 2 w0.heap.size (two 0 10) (two 0 25) 7 _ (by decide) B3.out.size (fun _ => RD1.out.below B3.out)).mono ?_
  rintro e w4 ⟨rfl, hb⟩
  rw [V4.out]
  clear c10 c11 c12 c13 c14 c15
  go_upto_region 8 with fail
  obtain ⟨u4, hu⟩ : ∃ u, u = w4.alloc (.cells #[.int .i64 3, .int .i64 3] 27) := ⟨_, rfl⟩
  rw [← hu]
  have hbu : Below u3.heap.size u3 u4 := hb.trans (by rw [hu]; exact Below.mono (below_alloc _ _) hb.size)
  have R3_4 : Hid (Blk u4 w4.heap.size 27 #[.int .i64 3, .int .i64 3]) := Lib.hid (hu ▸ Blk.new _ _ _)
  have B4 := Lib.hid (B3.out.trans (hbu.mono B3.out.size))
  have R0_4 := Lib.hid (R0_3.out.below hbu R0_3.out.lt)
  have R1_4 := Lib.hid (R1_3.out.below hbu R1_3.out.lt)
  have R2_4 := Lib.hid (R2_3.out.below hbu R2_3.out.lt)
  clear R0_3 R1_3 R2_3
  have hs4 := B4.out.size
  clear hb hu hbu
  have c20 : u4.cell? ⟨w.heap.size + 1 + 1 + 1, 0, none⟩ = some (.int .i64 0) := (GB2.out.below B4.out (by omega)).cell 0
  have c21 : u4.cell? ⟨w.heap.size + 1 + 1 + 1, 1, none⟩ = some (.int .i64 0) := (GB2.out.below B4.out (by omega)).cell 1
  have c22 : u4.cell? ⟨w.heap.size + 1 + 1 + 1, 2, none⟩ = some (.int .i64 0) := (GB2.out.below B4.out (by omega)).cell 2
  have c23 : u4.cell? ⟨w.heap.size + 1 + 1 + 1, 3, none⟩ = some (.int .i64 0) := (GB2.out.below B4.out (by omega)).cell 3
  have c24 : u4.cell? ⟨w.heap.size + 1 + 1 + 1, 4, none⟩ = some (.int .i64 0) := (GB2.out.below B4.out (by omega)).cell 4
  have c25 : u4.cell? ⟨w.heap.size + 1 + 1 + 1, 5, none⟩ = some (.slice (some ⟨w.heap.size + 1 + 1, 0, none⟩) 2 2) := (GB2.out.below B4.out (by omega)).cell 5
  go_wp2_with fail
  refine (Stage_17 0 0 0 0 0 (some ⟨w.heap.size + 1 + 1, 0, none⟩) 2 2 w0.heap.size (two 0 1) (two 0 9) 5 _ (by decide) B4.out.size (fun _ => RD2.out.below B4.out)).mono ?_
  rintro e w5 ⟨rfl, hb⟩
  rw [V5.out]
  clear c20 c21 c22 c23 c24 c25
  go_upto_region 9 with fail
  obtain ⟨u5, hu⟩ : ∃ u, u = w5.alloc (.cells #[.int .i64 0, .int .i64 0] 27) := ⟨_, rfl⟩
  rw [← hu]
  have hbu : Below u4.heap.size u4 u5 := hb.trans (by rw [hu]; exact Below.mono (below_alloc _ _) hb.size)
  have R4_5 : Hid (Blk u5 w5.heap.size 27 #[.int .i64 0, .int .i64 0]) := Lib.hid (hu ▸ Blk.new _ _ _)
  have B5 := Lib.hid (B4.out.trans (hbu.mono B4.out.size))
  have R0_5 := Lib.hid (R0_4.out.below hbu R0_4.out.lt)
  have R1_5 := Lib.hid (R1_4.out.below hbu R1_4.out.lt)
  have R2_5 := Lib.hid (R2_4.out.below hbu R2_4.out.lt)
  have R3_5 := Lib.hid (R3_4.out.below hbu R3_4.out.lt)
  clear R0_4 R1_4 R2_4 R3_4
  have hs5 := B5.out.size
  clear hb hu hbu
  have c30 : u5.cell? ⟨w.heap.size + 1 + 1 + 1 + 1 + 1, 0, none⟩ = some (.int .i64 0) := (GB3.out.below B5.out (by omega)).cell 0
  have c31 : u5.cell? ⟨w.heap.size + 1 + 1 + 1 + 1 + 1, 1, none⟩ = some (.int .i64 0) := (GB3.out.below B5.out (by omega)).cell 1
  have c32 : u5.cell? ⟨w.heap.size + 1 + 1 + 1 + 1 + 1, 2, none⟩ = some (.int .i64 0) := (GB3.out.below B5.out (by omega)).cell 2
  have c33 : u5.cell? ⟨w.heap.size + 1 + 1 + 1 + 1 + 1, 3, none⟩ = some (.int .i64 0) := (GB3.out.below B5.out (by omega)).cell 3
  have c34 : u5.cell? ⟨w.heap.size + 1 + 1 + 1 + 1 + 1, 4, none⟩ = some (.int .i64 0) := (GB3.out.below B5.out (by omega)).cell 4
  have c35 : u5.cell? ⟨w.heap.size + 1 + 1 + 1 + 1 + 1, 5, none⟩ = some (.slice (some ⟨w.heap.size + 1 + 1 + 1 + 1, 0, none⟩) 1 1) := (GB3.out.below B5.out (by omega)).cell 5
  go_wp2_with fail
  refine (Stage_17 0 0 0 0 0 (some ⟨w.heap.size + 1 + 1 + 1 + 1, 0, none⟩) 1 1 w0.heap.size (fun _ => 5) (fun _ => 9) 9 _ (by decide) B5.out.size (fun _ => RD3.out.below B5.out)).mono ?_
  rintro e w6 ⟨rfl, hb⟩
  rw [V6.out]
  clear c30 c31 c32 c33 c34 c35
  go_upto_region 10 with fail
  obtain ⟨u6, hu⟩ : ∃ u, u = w6.alloc (.cells #[.int .i64 0, .int .i64 1048576] 27) := ⟨_, rfl⟩
  rw [← hu]
  have hbu : Below u5.heap.size u5 u6 := hb.trans (by rw [hu]; exact Below.mono (below_alloc _ _) hb.size)
  have R5_6 : Hid (Blk u6 w6.heap.size 27 #[.int .i64 0, .int .i64 1048576]) := Lib.hid (hu ▸ Blk.new _ _ _)
  have B6 := Lib.hid (B5.out.trans (hbu.mono B5.out.size))
  have R0_6 := Lib.hid (R0_5.out.below hbu R0_5.out.lt)
  have R1_6 := Lib.hid (R1_5.out.below hbu R1_5.out.lt)
  have R2_6 := Lib.hid (R2_5.out.below hbu R2_5.out.lt)
  have R3_6 := Lib.hid (R3_5.out.below hbu R3_5.out.lt)
  have R4_6 := Lib.hid (R4_5.out.below hbu R4_5.out.lt)
  clear R0_5 R1_5 R2_5 R3_5 R4_5
  have hs6 := B6.out.size
  clear hb hu hbu
  have c30 : u6.cell? ⟨w.heap.size + 1 + 1 + 1 + 1 + 1, 0, none⟩ = some (.int .i64 0) := (GB3.out.below B6.out (by omega)).cell 0
  have c31 : u6.cell? ⟨w.heap.size + 1 + 1 + 1 + 1 + 1, 1, none⟩ = some (.int .i64 0) := (GB3.out.below B6.out (by omega)).cell 1
  have c32 : u6.cell? ⟨w.heap.size + 1 + 1 + 1 + 1 + 1, 2, none⟩ = some (.int .i64 0) := (GB3.out.below B6.out (by omega)).cell 2
  have c33 : u6.cell? ⟨w.heap.size + 1 + 1 + 1 + 1 + 1, 3, none⟩ = some (.int .i64 0) := (GB3.out.below B6.out (by omega)).cell 3
  have c34 : u6.cell? ⟨w.heap.size + 1 + 1 + 1 + 1 + 1, 4, none⟩ = some (.int .i64 0) := (GB3.out.below B6.out (by omega)).cell 4
  have c35 : u6.cell? ⟨w.heap.size + 1 + 1 + 1 + 1 + 1, 5, none⟩ = some (.slice (some ⟨w.heap.size + 1 + 1 + 1 + 1, 0, none⟩) 1 1) := (GB3.out.below B6.out (by omega)).cell 5
  go_wp2_with fail
  refine (Flow_11 0 0 0 0 0 (some ⟨w.heap.size + 1 + 1 + 1 + 1, 0, none⟩) 1 1 w0.heap.size (fun _ => 5) (fun _ => 9) 0 _ (by decide) B6.out.size (fun _ => RD3.out.below B6.out)).mono ?_
  rintro e w7 ⟨rfl, hb⟩
  rw [V7.out]
  clear c30 c31 c32 c33 c34 c35
  go_upto_region 11 with fail
  obtain ⟨u7, hu⟩ : ∃ u, u = w7.alloc (.cells #[.int .i64 9, .int .i64 9] 27) := ⟨_, rfl⟩
  rw [← hu]
  have hbu : Below u6.heap.size u6 u7 := hb.trans (by rw [hu]; exact Below.mono (below_alloc _ _) hb.size)
  have R6_7 : Hid (Blk u7 w7.heap.size 27 #[.int .i64 9, .int .i64 9]) := Lib.hid (hu ▸ Blk.new _ _ _)
  have B7 := Lib.hid (B6.out.trans (hbu.mono B6.out.size))
  have R0_7 := Lib.hid (R0_6.out.below hbu R0_6.out.lt)
  have R1_7 := Lib.hid (R1_6.out.below hbu R1_6.out.lt)
  have R2_7 := Lib.hid (R2_6.out.below hbu R2_6.out.lt)
  have R3_7 := Lib.hid (R3_6.out.below hbu R3_6.out.lt)
  have R4_7 := Lib.hid (R4_6.out.below hbu R4_6.out.lt)
  have R5_7 := Lib.hid (R5_6.out.below hbu R5_6.out.lt)
  clear R0_6 R1_6 R2_6 R3_6 R4_6 R5_6
  have hs7 := B7.out.size
  clear hb hu hbu
  have c10 : u7.cell? ⟨w.heap.size + 1, 0, none⟩ = some (.int .i64 0) := (GB1.out.below B7.out (by omega)).cell 0
  have c11 : u7.cell? ⟨w.heap.size + 1, 1, none⟩ = some (.int .i64 0) := (GB1.out.below B7.out (by omega)).cell 1
  have c12 : u7.cell? ⟨w.heap.size + 1, 2, none⟩ = some (.int .i64 1) := (GB1.out.below B7.out (by omega)).cell 2
  have c13 : u7.cell? ⟨w.heap.size + 1, 3, none⟩ = some (.int .i64 1) := (GB1.out.below B7.out (by omega)).cell 3
  have c14 : u7.cell? ⟨w.heap.size + 1, 4, none⟩ = some (.int .i64 10) := (GB1.out.below B7.out (by omega)).cell 4
  have c15 : u7.cell? ⟨w.heap.size + 1, 5, none⟩ = some (.slice (some ⟨w.heap.size, 0, none⟩) 2 2) := (GB1.out.below B7.out (by omega)).cell 5
  go_wp2_with fail
  refine (Flow_11 0 0 1 1 10 (some ⟨w.heap.size, 0, none⟩) 2 2 w0.heap.size (two 0 10) (two 0 25) (-1) _ (by decide) B7.out.size (fun _ => RD1.out.below B7.out)).mono ?_
  rintro e w8 ⟨rfl, hb⟩
  rw [V8.out]
  clear c10 c11 c12 c13 c14 c15
  go_upto_region 12 with fail
  obtain ⟨u8, hu⟩ : ∃ u, u = w8.alloc (.cells #[.int .i64 0, .int .i64 0] 27) := ⟨_, rfl⟩
  rw [← hu]
  have hbu : Below u7.heap.size u7 u8 := hb.trans (by rw [hu]; exact Below.mono (below_alloc _ _) hb.size)
  have R7_8 : Hid (Blk u8 w8.heap.size 27 #[.int .i64 0, .int .i64 0]) := Lib.hid (hu ▸ Blk.new _ _ _)
  have B8 := Lib.hid (B7.out.trans (hbu.mono B7.out.size))
  have R0_8 := Lib.hid (R0_7.out.below hbu R0_7.out.lt)
  have R1_8 := Lib.hid (R1_7.out.below hbu R1_7.out.lt)
  have R2_8 := Lib.hid (R2_7.out.below hbu R2_7.out.lt)
  have R3_8 := Lib.hid (R3_7.out.below hbu R3_7.out.lt)
  have R4_8 := Lib.hid (R4_7.out.below hbu R4_7.out.lt)
  have R5_8 := Lib.hid (R5_7.out.below hbu R5_7.out.lt)
  have R6_8 := Lib.hid (R6_7.out.below hbu R6_7.out.lt)
  clear R0_7 R1_7 R2_7 R3_7 R4_7 R5_7 R6_7
  have hs8 := B8.out.size
  clear hb hu hbu
  go_wp2_with fail
  refine (check_13 0 0 0 0 0 none 0 0 0 (fun _ => 0) (fun _ => 0) _ (by decide) (Nat.zero_le _) (fun _ => Rd.nil)).mono ?_
  rintro e w9 ⟨rfl, hb⟩
  rw [K4.out]
  have B9 := Lib.hid (B8.out.trans (hb.mono B8.out.size))
  have R0_9 := Lib.hid (R0_8.out.below hb R0_8.out.lt)
  have R1_9 := Lib.hid (R1_8.out.below hb R1_8.out.lt)
  have R2_9 := Lib.hid (R2_8.out.below hb R2_8.out.lt)
  have R3_9 := Lib.hid (R3_8.out.below hb R3_8.out.lt)
  have R4_9 := Lib.hid (R4_8.out.below hb R4_8.out.lt)
  have R5_9 := Lib.hid (R5_8.out.below hb R5_8.out.lt)
  have R6_9 := Lib.hid (R6_8.out.below hb R6_8.out.lt)
  have R7_9 := Lib.hid (R7_8.out.below hb R7_8.out.lt)
  clear R0_8 R1_8 R2_8 R3_8 R4_8 R5_8 R6_8 R7_8
  have hs9 := B9.out.size
  clear hb
  have c10 : w9.cell? ⟨w.heap.size + 1, 0, none⟩ = some (.int .i64 0) := (GB1.out.below B9.out (by omega)).cell 0
  have c11 : w9.cell? ⟨w.heap.size + 1, 1, none⟩ = some (.int .i64 0) := (GB1.out.below B9.out (by omega)).cell 1
  have c12 : w9.cell? ⟨w.heap.size + 1, 2, none⟩ = some (.int .i64 1) := (GB1.out.below B9.out (by omega)).cell 2
  have c13 : w9.cell? ⟨w.heap.size + 1, 3, none⟩ = some (.int .i64 1) := (GB1.out.below B9.out (by omega)).cell 3
  have c14 : w9.cell? ⟨w.heap.size + 1, 4, none⟩ = some (.int .i64 10) := (GB1.out.below B9.out (by omega)).cell 4
  have c15 : w9.cell? ⟨w.heap.size + 1, 5, none⟩ = some (.slice (some ⟨w.heap.size, 0, none⟩) 2 2) := (GB1.out.below B9.out (by omega)).cell 5
  go_wp2_with fail
  refine (check_13 0 0 1 1 10 (some ⟨w.heap.size, 0, none⟩) 2 2 w0.heap.size (two 0 10) (two 0 25) _ (by decide) B9.out.size (fun _ => RD1.out.below B9.out)).mono ?_
  rintro e w10 ⟨rfl, hb⟩
  rw [K1.out]
  clear c10 c11 c12 c13 c14 c15
  have B10 := Lib.hid (B9.out.trans (hb.mono B9.out.size))
  have R0_10 := Lib.hid (R0_9.out.below hb R0_9.out.lt)
  have R1_10 := Lib.hid (R1_9.out.below hb R1_9.out.lt)
  have R2_10 := Lib.hid (R2_9.out.below hb R2_9.out.lt)
  have R3_10 := Lib.hid (R3_9.out.below hb R3_9.out.lt)
  have R4_10 := Lib.hid (R4_9.out.below hb R4_9.out.lt)
  have R5_10 := Lib.hid (R5_9.out.below hb R5_9.out.lt)
  have R6_10 := Lib.hid (R6_9.out.below hb R6_9.out.lt)
  have R7_10 := Lib.hid (R7_9.out.below hb R7_9.out.lt)
  clear R0_9 R1_9 R2_9 R3_9 R4_9 R5_9 R6_9 R7_9
  have hs10 := B10.out.size
  clear hb
  go_wp2_with fail
  refine (check_13 0 0 0 0 0 (some ⟨w10.heap.size, 0, none⟩) 65 65 0 (fun _ => 0) (fun _ => 0) _ (by decide) (Nat.zero_le _) (fun h => absurd h (by decide))).mono ?_
  rintro e w11 ⟨rfl, hb0⟩
  rw [K5.out]
  have hb : Below w10.heap.size w10 w11 := (below_alloc _ _).trans (hb0.mono (by simp))
  clear hb0
  have B11 := Lib.hid (B10.out.trans (hb.mono B10.out.size))
  have R0_11 := Lib.hid (R0_10.out.below hb R0_10.out.lt)
  have R1_11 := Lib.hid (R1_10.out.below hb R1_10.out.lt)
  have R2_11 := Lib.hid (R2_10.out.below hb R2_10.out.lt)
  have R3_11 := Lib.hid (R3_10.out.below hb R3_10.out.lt)
  have R4_11 := Lib.hid (R4_10.out.below hb R4_10.out.lt)
  have R5_11 := Lib.hid (R5_10.out.below hb R5_10.out.lt)
  have R6_11 := Lib.hid (R6_10.out.below hb R6_10.out.lt)
  have R7_11 := Lib.hid (R7_10.out.below hb R7_10.out.lt)
  clear R0_10 R1_10 R2_10 R3_10 R4_10 R5_10 R6_10 R7_10
  have hs11 := B11.out.size
  clear hb
  have d00 : w11.cell? ⟨w1.heap.size, 0, none⟩ = some (.int .i64 7) := R0_11.out.cell 0
  have d01 : w11.cell? ⟨w1.heap.size, 1, none⟩ = some (.int .i64 8) := R0_11.out.cell 1
  have d10 : w11.cell? ⟨w2.heap.size, 0, none⟩ = some (.int .i64 5) := R1_11.out.cell 0
  have d11 : w11.cell? ⟨w2.heap.size, 1, none⟩ = some (.int .i64 10) := R1_11.out.cell 1
  have d20 : w11.cell? ⟨w3.heap.size, 0, none⟩ = some (.int .i64 2) := R2_11.out.cell 0
  have d21 : w11.cell? ⟨w3.heap.size, 1, none⟩ = some (.int .i64 13) := R2_11.out.cell 1
  have d30 : w11.cell? ⟨w4.heap.size, 0, none⟩ = some (.int .i64 3) := R3_11.out.cell 0
  have d31 : w11.cell? ⟨w4.heap.size, 1, none⟩ = some (.int .i64 3) := R3_11.out.cell 1
  have d40 : w11.cell? ⟨w5.heap.size, 0, none⟩ = some (.int .i64 0) := R4_11.out.cell 0
  have d41 : w11.cell? ⟨w5.heap.size, 1, none⟩ = some (.int .i64 0) := R4_11.out.cell 1
  have d50 : w11.cell? ⟨w6.heap.size, 0, none⟩ = some (.int .i64 0) := R5_11.out.cell 0
  have d51 : w11.cell? ⟨w6.heap.size, 1, none⟩ = some (.int .i64 1048576) := R5_11.out.cell 1
  have d60 : w11.cell? ⟨w7.heap.size, 0, none⟩ = some (.int .i64 9) := R6_11.out.cell 0
  have d61 : w11.cell? ⟨w7.heap.size, 1, none⟩ = some (.int .i64 9) := R6_11.out.cell 1
  have d70 : w11.cell? ⟨w8.heap.size, 0, none⟩ = some (.int .i64 0) := R7_11.out.cell 0
  have d71 : w11.cell? ⟨w8.heap.size, 1, none⟩ = some (.int .i64 0) := R7_11.out.cell 1
  go_wp2_with fail
  go_ret
  exact ⟨rfl, HB0.out.trans (B11.out.mono (by omega))⟩
end Go.Proofs.Ytfddlodfmmnanaa
