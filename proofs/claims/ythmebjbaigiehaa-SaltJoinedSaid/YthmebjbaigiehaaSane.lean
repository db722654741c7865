/- The law package's examples hold: the function that checks them returns true. No condition. -/
import Derived.Test.YthmebjbaigiehaaRefSplit
import Derived.Test.YthmebjbaigiehaaSame
import Derived.Test.YthmebjbaigiehaaTurns
namespace Go.Proofs.Ythmebjbaigiehaa
open Go.RowKit

def two (a b : Int) : Nat → Int | 0 => a | _ => b
def three (a b c : Int) : Nat → Int | 0 => a | 1 => b | _ => c
theorem v1 : wtE (mixE 2 (two 4 6) (two 2 4)) (sm (two 4 6) 2) (sm (two 2 4) 2) = .tuple #[.agg #[.int .i64 10, .int .i64 6], .int .i64 0] := by rfl
theorem v2 : prE (losE 10 6 2 4) (10 - 2 - 4) (6 - losG 10 6 2 4) 4 (losG 10 6 2 4) = .tuple #[.agg #[.int .i64 4, .int .i64 3], .agg #[.int .i64 4, .int .i64 3], .int .i64 0] := by rfl
theorem pts2 (a b c d : Int) : ∀ j, j < #[Value.int .i64 a, Value.int .i64 b, Value.int .i64 c, Value.int .i64 d].size → #[Value.int .i64 a, Value.int .i64 b, Value.int .i64 c, Value.int .i64 d][j]? = some (ptc (two a c) (two b d) j) := by
  intro j hj
  match j, hj with
  | 0, _ => rfl
  | 1, _ => rfl
  | 2, _ => rfl
  | 3, _ => rfl
theorem ints3 (a b c : Int) : ∀ j, j < #[Value.int .i64 a, Value.int .i64 b, Value.int .i64 c].size → #[Value.int .i64 a, Value.int .i64 b, Value.int .i64 c][j]? = some (.int .i64 (three a b c j)) := by
  intro j hj
  match j, hj with
  | 0, _ => rfl
  | 1, _ => rfl
  | 2, _ => rfl
theorem ptsS : ∀ j, j < #[Value.int .i64 2, Value.int .i64 1, Value.int .i64 2, Value.int .i64 2, Value.int .i64 1, Value.int .i64 1].size → #[Value.int .i64 2, Value.int .i64 1, Value.int .i64 2, Value.int .i64 2, Value.int .i64 1, Value.int .i64 1][j]? = some (ptc (three 2 2 1) (splS 5 4 (three 2 2 1)) j) := by
  intro j hj
  match j, hj with
  | 0, _ => rfl
  | 1, _ => rfl
  | 2, _ => rfl
  | 3, _ => rfl
  | 4, _ => rfl
  | 5, _ => rfl
theorem v3 : splE 5 4 3 (three 2 2 1) = 0 := by decide
theorem v4 : splS 5 4 (three 2 2 1) 0 = 1 ∧ splS 5 4 (three 2 2 1) 1 = 2 ∧ splS 5 4 (three 2 2 1) 2 = 1 := by decide
theorem v5 : lchE 10 8 10 0 = 0 ∧ lchA 10 8 10 0 = 4 ∧ lchD 10 8 10 0 = 4 := by decide
theorem w5v : prE (lchE 10 8 10 0) 10 (lchA 10 8 10 0) 10 (lchD 10 8 10 0) = .tuple #[.agg #[.int .i64 10, .int .i64 4], .agg #[.int .i64 10, .int .i64 4], .int .i64 0] := by rfl
theorem v6 : trnE 10 8 10 0 9 2 = 0 ∧ trn 10 10 0 2 9 8 = some 2 := by decide
theorem t1 : turV (trnE 10 8 10 0 9 2) (trn 10 10 0 2 (9 : Int).toNat 8) = .tuple #[.int .i64 2, .bool true, .int .i64 0] := by rfl
theorem t2 : turV (trnE 10 8 10 0 1 2) (trn 10 10 0 2 (1 : Int).toNat 8) = .tuple #[.int .i64 0, .bool false, .int .i64 0] := by rfl
theorem pt1 (a b : Int) : ∀ j, j < #[Value.int .i64 a, Value.int .i64 b].size → #[Value.int .i64 a, Value.int .i64 b][j]? = some (ptc (fun _ => a) (fun _ => b) j) := by
  intro j hj
  match j, hj with
  | 0, _ => rfl
  | 1, _ => rfl
theorem t3 : wtE (mixE 1 (fun _ => 0) (fun _ => 1)) (sm (fun _ => 0) 1) (sm (fun _ => 1) 1) = .tuple #[.agg #[.int .i64 0, .int .i64 0], .int .i64 430] := by rfl
theorem t4 : prE (losE 5 2 5 0) (5 - 5 - 0) (2 - losG 5 2 5 0) 0 (losG 5 2 5 0) = .tuple #[.agg #[.int .i64 0, .int .i64 0], .agg #[.int .i64 0, .int .i64 0], .int .i64 430] := by rfl
theorem t5 : prE (losE 5 2 3 3) (5 - 3 - 3) (2 - losG 5 2 3 3) 3 (losG 5 2 3 3) = .tuple #[.agg #[.int .i64 0, .int .i64 0], .agg #[.int .i64 0, .int .i64 0], .int .i64 1] := by rfl
theorem t6 : prE (lchE 0 0 0 0) 0 (lchA 0 0 0 0) 0 (lchD 0 0 0 0) = .tuple #[.agg #[.int .i64 0, .int .i64 0], .agg #[.int .i64 0, .int .i64 0], .int .i64 430] := by rfl
theorem v7 : trnE 10 8 10 0 1 2 = 0 ∧ trn 10 10 0 2 1 8 = none := by decide

set_option maxRecDepth 100000 in
set_option maxHeartbeats 4000000 in
theorem sane_11 (w : World) : Calls Try.prog 11 #[] w fun e w' => e = .returned (.bool true) ∧ Below w.heap.size w w' := by
  go_enter Try.func11, Try.ntmps11
  have V1 := Lib.hid v1
  have V2 := Lib.hid v2
  go_wp2_with fail
  obtain ⟨w0, hw0⟩ : ∃ zz, zz = w.alloc (.cells #[.int .i64 4, .int .i64 2, .int .i64 6, .int .i64 4] 24) := ⟨_, rfl⟩
  have HA0 : Hid (Blk w0 w.heap.size 24 #[.int .i64 4, .int .i64 2, .int .i64 6, .int .i64 4]) := Lib.hid (hw0 ▸ Blk.new _ _ _)
  have HB0 : Hid (Below w.heap.size w w0) := Lib.hid (hw0 ▸ below_alloc _ _)
  rw [← hw0]
  clear hw0
  refine (Mix_12 (some ⟨w.heap.size, 0, none⟩) 2 2 w0.heap.size (two 4 6) (two 2 4) w0 (by decide) (Nat.le_refl _) (HA0.out.rd _ (pts2 4 2 6 4))).mono ?_
  rintro e w1 ⟨rfl, hb1⟩
  rw [V1.out]
  have HB1 := Lib.hid (HB0.out.trans (hb1.mono HB0.out.size))
  clear hb1 HA0 HB0
  go_wp2_with fail
  obtain ⟨w2, hw2⟩ : ∃ zz, zz = w1.alloc (.cells #[.int .i64 10, .int .i64 6] 24) := ⟨_, rfl⟩
  have HW2 : Hid (Blk w2 w1.heap.size 24 #[.int .i64 10, .int .i64 6]) := Lib.hid (hw2 ▸ Blk.new _ _ _)
  have HB2 : Hid (Below w.heap.size w w2) := Lib.hid (hw2 ▸ HB1.out.alloc HB1.out.size _)
  have hn1 : w.heap.size ≤ w1.heap.size := HB1.out.size
  rw [← hw2]
  clear hw2 HB1
  refine (Lose_14 10 6 2 4 w2).mono ?_
  rintro e w3 ⟨rfl, hb3⟩
  rw [V2.out]
  have HW3 := Lib.hid (HW2.out.below hb3 HW2.out.lt)
  have HB3 := Lib.hid (HB2.out.trans (hb3.mono HB2.out.size))
  clear hb3 HW2 HB2
  have hs3 := HW3.out.lt
  go_wp2_with fail
  obtain ⟨w4, hw4⟩ : ∃ zz, zz = ((w3.alloc (.cells #[.int .i64 4, .int .i64 3] 24)).alloc (.cells #[.int .i64 4, .int .i64 3] 24)).alloc (.cells #[.int .i64 2, .int .i64 2, .int .i64 1] 3) := ⟨_, rfl⟩
  have HW4 : Hid (Blk w4 w1.heap.size 24 #[.int .i64 10, .int .i64 6]) := Lib.hid (hw4 ▸ ((HW3.out.alloc _).alloc _).alloc _)
  have HL4 : Hid (Blk w4 w3.heap.size 24 #[.int .i64 4, .int .i64 3]) := Lib.hid (hw4 ▸ ((Blk.new _ _ _).alloc _).alloc _)
  have HG4 : Hid (Blk w4 (w3.heap.size + 1) 24 #[.int .i64 4, .int .i64 3]) := Lib.hid (hw4 ▸ (Blk.new' (by simp)).alloc _)
  have HP4 : Hid (Blk w4 (w3.heap.size + 1 + 1) 3 #[.int .i64 2, .int .i64 2, .int .i64 1]) := Lib.hid (hw4 ▸ Blk.new' (by simp))
  have HB4 : Hid (Below w.heap.size w w4) := Lib.hid (hw4 ▸ ((HB3.out.alloc (by omega) _).alloc (by simp; omega) _).alloc (by simp; omega) _)
  rw [← hw4]
  clear hw4 HW3 HB3
  have hs4 := HP4.out.lt
  refine (Split_16 5 4 (some ⟨w3.heap.size + 1 + 1, 0, none⟩) 3 3 w4.heap.size (three 2 2 1) w4 (by decide) (Nat.le_refl _) (HP4.out.rd _ (ints3 2 2 1))).mono ?_
  rintro e w5 ⟨⟨A', n', c', rfl, hn', hrd⟩, hb5⟩
  rw [v3, if_pos rfl] at hn'
  subst hn'
  rw [v3]
  have HRD5 := Lib.hid hrd
  have HW5 := Lib.hid (HW4.out.below hb5 HW4.out.lt)
  have HL5 := Lib.hid (HL4.out.below hb5 HL4.out.lt)
  have HG5 := Lib.hid (HG4.out.below hb5 HG4.out.lt)
  have HB5 := Lib.hid (HB4.out.trans (hb5.mono HB4.out.size))
  have hz5 := hb5.size
  clear hb5 hrd HW4 HL4 HG4 HP4 HB4
  go_wp2_with fail
  refine (Leach_19 10 8 10 0 w5).mono ?_
  rintro e w6 ⟨rfl, hb6⟩
  rw [w5v]
  have HRD6 := Lib.hid (show RdP w6 w5.heap.size A' 3 (three 2 2 1) (splS 5 4 (three 2 2 1)) from RdP.below HRD5.out hb6)
  have HW6 := Lib.hid (HW5.out.below hb6 HW5.out.lt)
  have HL6 := Lib.hid (HL5.out.below hb6 HL5.out.lt)
  have HG6 := Lib.hid (HG5.out.below hb6 HG5.out.lt)
  have HB6 := Lib.hid (HB5.out.trans (hb6.mono HB5.out.size))
  have hz6 := hb6.size
  clear hb6 HRD5 HW5 HL5 HG5 HB5
  go_upto_region 5 with fail
  obtain ⟨w7, hw7⟩ : ∃ zz, zz = (w6.alloc (.cells #[.int .i64 10, .int .i64 4] 38)).alloc (.cells #[.int .i64 10, .int .i64 4] 24) := ⟨_, rfl⟩
  have HF7 : Hid (Blk w7 w6.heap.size 38 #[.int .i64 10, .int .i64 4]) := Lib.hid (hw7 ▸ (Blk.new _ _ _).alloc _)
  have HD7 : Hid (Blk w7 (w6.heap.size + 1) 24 #[.int .i64 10, .int .i64 4]) := Lib.hid (hw7 ▸ Blk.new' (by simp))
  have HW7 := Lib.hid (show Blk w7 w1.heap.size 24 #[.int .i64 10, .int .i64 6] from hw7 ▸ (HW6.out.alloc _).alloc _)
  have HL7 := Lib.hid (show Blk w7 w3.heap.size 24 #[.int .i64 4, .int .i64 3] from hw7 ▸ (HL6.out.alloc _).alloc _)
  have HG7 := Lib.hid (show Blk w7 (w3.heap.size + 1) 24 #[.int .i64 4, .int .i64 3] from hw7 ▸ (HG6.out.alloc _).alloc _)
  have HRD7 := Lib.hid (show RdP w7 w5.heap.size A' 3 (three 2 2 1) (splS 5 4 (three 2 2 1)) from hw7 ▸ Rd.alloc (Rd.alloc HRD6.out hz6 _) (by simp; omega) _)
  have HB7 : Hid (Below w.heap.size w w7) := Lib.hid (hw7 ▸ (HB6.out.alloc (by omega) _).alloc (by simp; omega) _)
  rw [← hw7]
  clear hw7 HW6 HL6 HG6 HRD6 HB6
  have hz7 := HD7.out.lt
  have p0 : w7.cell? ⟨w1.heap.size, 0, none⟩ = some (.int .i64 10) := HW7.out.cell 0
  have p1 : w7.cell? ⟨w1.heap.size, 1, none⟩ = some (.int .i64 6) := HW7.out.cell 1
  have p2 : w7.cell? ⟨w3.heap.size, 0, none⟩ = some (.int .i64 4) := HL7.out.cell 0
  have p3 : w7.cell? ⟨w3.heap.size, 1, none⟩ = some (.int .i64 3) := HL7.out.cell 1
  have p4 : w7.cell? ⟨w3.heap.size + 1, 0, none⟩ = some (.int .i64 4) := HG7.out.cell 0
  have p5 : w7.cell? ⟨w3.heap.size + 1, 1, none⟩ = some (.int .i64 3) := HG7.out.cell 1
  have p6 : w7.cell? ⟨w6.heap.size, 0, none⟩ = some (.int .i64 10) := HF7.out.cell 0
  have p7 : w7.cell? ⟨w6.heap.size, 1, none⟩ = some (.int .i64 4) := HF7.out.cell 1
  have p8 : w7.cell? ⟨w6.heap.size + 1, 0, none⟩ = some (.int .i64 10) := HD7.out.cell 0
  have p9 : w7.cell? ⟨w6.heap.size + 1, 1, none⟩ = some (.int .i64 4) := HD7.out.cell 1
  go_upto_region 7 with fail
  go_wp2_with fail
  obtain ⟨w8, hw8⟩ : ∃ zz, zz = w7.alloc (.cells #[.int .i64 2, .int .i64 1, .int .i64 2, .int .i64 2, .int .i64 1, .int .i64 1] 24) := ⟨_, rfl⟩
  have HP8 : Hid (Blk w8 w7.heap.size 24 #[.int .i64 2, .int .i64 1, .int .i64 2, .int .i64 2, .int .i64 1, .int .i64 1]) := Lib.hid (hw8 ▸ Blk.new _ _ _)
  have HF8 := Lib.hid (show Blk w8 w6.heap.size 38 #[.int .i64 10, .int .i64 4] from hw8 ▸ HF7.out.alloc _)
  have HD8 := Lib.hid (show Blk w8 (w6.heap.size + 1) 24 #[.int .i64 10, .int .i64 4] from hw8 ▸ HD7.out.alloc _)
  have HRD8 := Lib.hid (show RdP w8 w5.heap.size A' 3 (three 2 2 1) (splS 5 4 (three 2 2 1)) from hw8 ▸ Rd.alloc HRD7.out (by omega) _)
  have HB8 : Hid (Below w.heap.size w w8) := Lib.hid (hw8 ▸ HB7.out.alloc (by omega) _)
  rw [← hw8]
  clear hw8 HF7 HD7 HRD7 HB7 HW7 HL7 HG7 p0 p1 p2 p3 p4 p5 p6 p7 p8 p9
  have hz8 := HP8.out.lt
  refine (Same_18 A' (some ⟨w7.heap.size, 0, none⟩) 3 c' 3 w8.heap.size (three 2 2 1) (splS 5 4 (three 2 2 1)) w8 (by decide) (Rd.mono HRD8.out (by omega)) (HP8.out.rd _ ptsS)).mono ?_
  rintro e w9 ⟨rfl, q, rfl⟩
  have HF9 := Lib.hid (HF8.out.drewN q)
  have HD9 := Lib.hid (HD8.out.drewN q)
  have HB9 := Lib.hid (below_quiet HB8.out ⟨q, rfl⟩)
  have hz9 : w6.heap.size + 1 < (w8.drewN q).heap.size := HD9.out.lt
  clear HF8 HD8 HB8 HRD8 HP8
  generalize w8.drewN q = w9 at HF9 HD9 HB9 hz9 ⊢
  have p6 : w9.cell? ⟨w6.heap.size, 0, none⟩ = some (.int .i64 10) := HF9.out.cell 0
  have p7 : w9.cell? ⟨w6.heap.size, 1, none⟩ = some (.int .i64 4) := HF9.out.cell 1
  have p8 : w9.cell? ⟨w6.heap.size + 1, 0, none⟩ = some (.int .i64 10) := HD9.out.cell 0
  have p9 : w9.cell? ⟨w6.heap.size + 1, 1, none⟩ = some (.int .i64 4) := HD9.out.cell 1
  go_wp2_with fail
  have hzz := HB9.out.size
  clear p6 p7 p8 p9 HF9 HD9
  refine (Turns_21 10 8 10 0 9 2 w9).mono ?_
  rintro e wa ⟨rfl, hba⟩
  rw [t1]
  have HBa := Lib.hid (HB9.out.trans (hba.mono hzz))
  clear hba
  go_wp2_with fail
  have hza := HBa.out.size
  refine (Turns_21 10 8 10 0 1 2 wa).mono ?_
  rintro e wb ⟨rfl, hbb⟩
  rw [t2]
  have HBb := Lib.hid (HBa.out.trans (hbb.mono hza))
  clear hbb
  go_wp2_with fail
  obtain ⟨wc, hwc⟩ : ∃ zz, zz = wb.alloc (.cells #[.int .i64 0, .int .i64 1] 24) := ⟨_, rfl⟩
  have HPc : Hid (Blk wc wb.heap.size 24 #[.int .i64 0, .int .i64 1]) := Lib.hid (hwc ▸ Blk.new _ _ _)
  have HBc : Hid (Below w.heap.size w wc) := Lib.hid (hwc ▸ HBb.out.alloc HBb.out.size _)
  rw [← hwc]
  clear hwc
  refine (Mix_12 (some ⟨wb.heap.size, 0, none⟩) 1 1 wc.heap.size (fun _ => 0) (fun _ => 1) wc (by decide) (Nat.le_refl _) (HPc.out.rd _ (pt1 0 1))).mono ?_
  rintro e wd ⟨rfl, hbd⟩
  rw [t3]
  have HBd := Lib.hid (HBc.out.trans (hbd.mono HBc.out.size))
  clear hbd HPc
  go_wp2_with fail
  refine (Lose_14 5 2 5 0 _).mono ?_
  rintro e we ⟨rfl, hbe⟩
  rw [t4]
  have HBe := Lib.hid (HBd.out.trans (hbe.mono HBd.out.size))
  clear hbe
  go_wp2_with fail
  refine (Lose_14 5 2 3 3 _).mono ?_
  rintro e wf ⟨rfl, hbf⟩
  rw [t5]
  have HBf := Lib.hid (HBe.out.trans (hbf.mono HBe.out.size))
  clear hbf
  go_wp2_with fail
  obtain ⟨wg, hwg⟩ : ∃ zz, zz = (wf.alloc (.cells #[.int .i64 0, .int .i64 0] 24)).alloc (.cells #[.int .i64 0, .int .i64 0] 24) := ⟨_, rfl⟩
  have HBg : Hid (Below w.heap.size w wg) := Lib.hid (hwg ▸ (HBf.out.alloc HBf.out.size _).alloc (by have := HBf.out.size; simp; omega) _)
  rw [← hwg]
  clear hwg
  refine (Leach_19 0 0 0 0 _).mono ?_
  rintro e wh ⟨rfl, hbh⟩
  rw [t6]
  have HBh := Lib.hid (HBg.out.trans (hbh.mono HBg.out.size))
  clear hbh
  go_wp2_with fail
  go_ret
  exact ⟨rfl, (HBh.out.alloc HBh.out.size _).alloc (by have := HBh.out.size; simp; omega) _⟩
end Go.Proofs.Ythmebjbaigiehaa
