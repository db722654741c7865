/- Contract of the reference's Lose. No condition. -/
import Derived.Test.YthmebjbaigiehaaLose
namespace Go.Proofs.Ythmebjbaigiehaa
open Go.RowKit

set_option maxRecDepth 100000 in
set_option maxHeartbeats 4000000 in
theorem ref_Lose_15 (L S ev se : Int) (w : World) :
    Calls Try.prog 15 #[.agg #[.int .i64 L, .int .i64 S], .int .i64 ev, .int .i64 se] w fun e w' => e = .returned (prE (losE L S ev se) (L - ev - se) (S - losG L S ev se) se (losG L S ev se)) ∧ Below w.heap.size w w' := by
  go_enter Try.func15, Try.ntmps15
  go_wp2_with fail
  obtain ⟨w1, hw1⟩ : ∃ zz, zz = w.alloc (.cells #[.int .i64 L, .int .i64 S] 24) := ⟨_, rfl⟩
  have hz1 : w1.heap.size = w.heap.size + 1 := by rw [hw1]; simp
  obtain ⟨w3, hw3⟩ : ∃ zz, zz = (w1.alloc (.cells #[.int .i64 0, .int .i64 0] 24)).alloc (.cells #[.int .i64 0, .int .i64 0] 24) := ⟨_, rfl⟩
  have HW3 : Hid (Blk w3 w.heap.size 24 #[.int .i64 L, .int .i64 S]) := Lib.hid (hw3 ▸ hw1 ▸ ((Blk.new _ _ _).alloc _).alloc _)
  have HL3 : Hid (Blk w3 (w.heap.size+1) 24 #[.int .i64 0, .int .i64 0]) := Lib.hid (by have := (Blk.new w1 24 #[.int .i64 0, .int .i64 0]).alloc (.cells #[.int .i64 0, .int .i64 0] 24); rw [hz1] at this; rw [hw3]; exact this)
  have HG3 : Hid (Blk w3 (w.heap.size+1+1) 24 #[.int .i64 0, .int .i64 0]) := Lib.hid (by have := Blk.new (w1.alloc (.cells #[.int .i64 0, .int .i64 0] 24)) 24 #[.int .i64 0, .int .i64 0]; rw [World.size_alloc, hz1] at this; rw [hw3]; exact this)
  have HB3 : Hid (Below w.heap.size w w3) := Lib.hid (by rw [hw3, hw1]; (repeat (first | exact Below.refl _ _ | exact below_alloc _ _ | refine Below.alloc ?_ (by simp; omega) _ | refine Below.alloc ?_ (by simp) _)))
  rw [← hw1, ← hw3]
  clear hw1 hz1 hw3
  have hs3 := HG3.out.lt
  refine (Right_23 _ _ _).mono ?_
  rintro e w4 ⟨rfl, hb4⟩
  have HB4 := Lib.hid (HB3.out.trans (hb4.mono (by omega)))
  have HW4 := Lib.hid (HW3.out.below hb4 (by omega))
  have HL4 := Lib.hid (HL3.out.below hb4 (by omega))
  have HG4 := Lib.hid (HG3.out.below hb4 (by omega))
  clear hb4 HB3 HW3 HL3 HG3
  have hs4 := HG4.out.lt
  have c0 : w4.cell? ⟨w.heap.size, 0, none⟩ = some (.int .i64 L) := HW4.out.cell 0
  have c1 : w4.cell? ⟨w.heap.size, 1, none⟩ = some (.int .i64 S) := HW4.out.cell 1
  have d0 : w4.cell? ⟨w.heap.size+1, 0, none⟩ = some (.int .i64 0) := HL4.out.cell 0
  have d1 : w4.cell? ⟨w.heap.size+1, 1, none⟩ = some (.int .i64 0) := HL4.out.cell 1
  have d2 : w4.cell? ⟨w.heap.size+1+1, 0, none⟩ = some (.int .i64 0) := HG4.out.cell 0
  have d3 : w4.cell? ⟨w.heap.size+1+1, 1, none⟩ = some (.int .i64 0) := HG4.out.cell 1
  have f0 := HL4.out.frozen 0
  have f1 := HL4.out.frozen 1
  have f2 := HG4.out.frozen 0
  have f3 := HG4.out.frozen 1
  cases h1 : rt L S
  · have HE : Hid (losE L S ev se = 430) := Lib.hid (by rw [losE, if_pos h1])
    clear h1
    go_wp2_with fail
    have hl := ((((HL4.out.set_ 0 (.int .i64 (0))).set_ 1 (.int .i64 (0))).far (p := ⟨w.heap.size+1+1, 0, none⟩) (by simp) (.int .i64 (0))).far (p := ⟨w.heap.size+1+1, 1, none⟩) (by simp) (.int .i64 (0)))
    have hg := ((((HG4.out.far (p := ⟨w.heap.size+1, 0, none⟩) (by simp) (.int .i64 (0))).far (p := ⟨w.heap.size+1, 1, none⟩) (by simp) (.int .i64 (0))).set_ 0 (.int .i64 (0))).set_ 1 (.int .i64 (0)))
    refine bodyPost_ret (results_rows2 rfl _ _ _ _ 24 24 _ _ (0, 0) (0, 0) _ _ rfl hl rfl hg Try.underlying24 rfl (by kernel_rfl) Try.underlying24 rfl (by kernel_rfl)) rfl ?_
    refine ⟨ret_val ?_, ((((HB4.out.setCell (p := ⟨w.heap.size+1, 0, none⟩) (by simp) _).setCell (p := ⟨w.heap.size+1, 1, none⟩) (by simp) _).setCell (p := ⟨w.heap.size+1+1, 0, none⟩) (by simp; omega) _).setCell (p := ⟨w.heap.size+1+1, 1, none⟩) (by simp; omega) _)⟩
    rw [HE.out]
    simp [prE, orZ]
  have H1 := Lib.hid h1
  obtain ⟨⟨a1, a2⟩, ⟨a3, a4⟩, a5⟩ := rt_iff.1 h1
  clear h1
  have HA5 := Lib.hid a5
  clear a5
  go_wp2_with fail
  refine (within_30 _ _ _ _).mono ?_
  rintro e wa ⟨rfl, rfl⟩
  by_cases hv : ¬ (0 ≤ ev ∧ ev ≤ L)
  · have HE : Hid (losE L S ev se = 1) := Lib.hid (by rw [losE, if_neg (by rw [H1.out]; simp), if_neg (by omega)])
    have hd : (decide (0 ≤ ev) && decide (ev ≤ L)) = false := by simp; omega
    rw [hd]
    clear hd
    go_wp2_with fail
    have hl := ((((HL4.out.set_ 0 (.int .i64 (0))).set_ 1 (.int .i64 (0))).far (p := ⟨w.heap.size+1+1, 0, none⟩) (by simp) (.int .i64 (0))).far (p := ⟨w.heap.size+1+1, 1, none⟩) (by simp) (.int .i64 (0)))
    have hg := ((((HG4.out.far (p := ⟨w.heap.size+1, 0, none⟩) (by simp) (.int .i64 (0))).far (p := ⟨w.heap.size+1, 1, none⟩) (by simp) (.int .i64 (0))).set_ 0 (.int .i64 (0))).set_ 1 (.int .i64 (0)))
    refine bodyPost_ret (results_rows2 rfl _ _ _ _ 24 24 _ _ (0, 0) (0, 0) _ _ rfl hl rfl hg Try.underlying24 rfl (by kernel_rfl) Try.underlying24 rfl (by kernel_rfl)) rfl ?_
    refine ⟨ret_val ?_, ((((HB4.out.setCell (p := ⟨w.heap.size+1, 0, none⟩) (by simp) _).setCell (p := ⟨w.heap.size+1, 1, none⟩) (by simp) _).setCell (p := ⟨w.heap.size+1+1, 0, none⟩) (by simp; omega) _).setCell (p := ⟨w.heap.size+1+1, 1, none⟩) (by simp; omega) _)⟩
    rw [HE.out]
    simp [prE, orZ]
  obtain ⟨b1, b2⟩ := Decidable.not_not.1 hv
  clear hv
  have hd : (decide (0 ≤ ev) && decide (ev ≤ L)) = true := by simp [b1, b2]
  rw [hd]
  clear hd
  go_wp2_with fail
  refine (within_30 _ _ _ _).mono ?_
  rintro e wa ⟨rfl, rfl⟩
  by_cases hv : ¬ (0 ≤ se ∧ se ≤ L - ev)
  · have HE : Hid (losE L S ev se = 1) := Lib.hid (by rw [losE, if_neg (by rw [H1.out]; simp), if_neg (by omega)])
    have hd : (decide (0 ≤ se) && decide (se ≤ L - ev)) = false := by simp; omega
    rw [hd]
    clear hd
    go_wp2_with fail
    have hl := ((((HL4.out.set_ 0 (.int .i64 (0))).set_ 1 (.int .i64 (0))).far (p := ⟨w.heap.size+1+1, 0, none⟩) (by simp) (.int .i64 (0))).far (p := ⟨w.heap.size+1+1, 1, none⟩) (by simp) (.int .i64 (0)))
    have hg := ((((HG4.out.far (p := ⟨w.heap.size+1, 0, none⟩) (by simp) (.int .i64 (0))).far (p := ⟨w.heap.size+1, 1, none⟩) (by simp) (.int .i64 (0))).set_ 0 (.int .i64 (0))).set_ 1 (.int .i64 (0)))
    refine bodyPost_ret (results_rows2 rfl _ _ _ _ 24 24 _ _ (0, 0) (0, 0) _ _ rfl hl rfl hg Try.underlying24 rfl (by kernel_rfl) Try.underlying24 rfl (by kernel_rfl)) rfl ?_
    refine ⟨ret_val ?_, ((((HB4.out.setCell (p := ⟨w.heap.size+1, 0, none⟩) (by simp) _).setCell (p := ⟨w.heap.size+1, 1, none⟩) (by simp) _).setCell (p := ⟨w.heap.size+1+1, 0, none⟩) (by simp; omega) _).setCell (p := ⟨w.heap.size+1+1, 1, none⟩) (by simp; omega) _)⟩
    rw [HE.out]
    simp [prE, orZ]
  obtain ⟨b3, b4⟩ := Decidable.not_not.1 hv
  clear hv
  have hd : (decide (0 ≤ se) && decide (se ≤ L - ev)) = true := by simp [b3, b4]
  rw [hd]
  clear hd
  by_cases hz : L - ev = 0
  · have hz' : (L - ev == 0) = true := by simpa using hz
    by_cases hS : 0 < S
    · have HE : Hid (losE L S ev se = 430) := Lib.hid (by rw [losE, if_neg (by rw [H1.out]; simp), if_pos ⟨b1, b2, b3, b4⟩, if_neg (by omega)])
      go_wp2_with fail
      have hl := ((((HL4.out.set_ 0 (.int .i64 (0))).set_ 1 (.int .i64 (0))).far (p := ⟨w.heap.size+1+1, 0, none⟩) (by simp) (.int .i64 (0))).far (p := ⟨w.heap.size+1+1, 1, none⟩) (by simp) (.int .i64 (0)))
      have hg := ((((HG4.out.far (p := ⟨w.heap.size+1, 0, none⟩) (by simp) (.int .i64 (0))).far (p := ⟨w.heap.size+1, 1, none⟩) (by simp) (.int .i64 (0))).set_ 0 (.int .i64 (0))).set_ 1 (.int .i64 (0)))
      refine bodyPost_ret (results_rows2 rfl _ _ _ _ 24 24 _ _ (0, 0) (0, 0) _ _ rfl hl rfl hg Try.underlying24 rfl (by kernel_rfl) Try.underlying24 rfl (by kernel_rfl)) rfl ?_
      refine ⟨ret_val ?_, ((((HB4.out.setCell (p := ⟨w.heap.size+1, 0, none⟩) (by simp) _).setCell (p := ⟨w.heap.size+1, 1, none⟩) (by simp) _).setCell (p := ⟨w.heap.size+1+1, 0, none⟩) (by simp; omega) _).setCell (p := ⟨w.heap.size+1+1, 1, none⟩) (by simp; omega) _)⟩
      rw [HE.out]
      simp [prE, orZ]
    · have HE : Hid (losE L S ev se = 0) := Lib.hid (by rw [losE, if_neg (by rw [H1.out]; simp), if_pos ⟨b1, b2, b3, b4⟩, if_pos (by omega)])
      have HGO : Hid (losG L S ev se = 0) := Lib.hid (by rw [losG, if_neg (by omega)])
      have hS0 : Hid (S = 0) := Lib.hid (by omega)
      have hse : Hid (se = 0) := Lib.hid (by omega)
      have hS' : S ≤ 0 := by omega
      have HZ := Lib.hid hz
      clear hz
      go_wp2_with fail
      have hl := ((((HL4.out.set_ 0 (.int .i64 (0))).set_ 1 (.int .i64 (0))).far (p := ⟨w.heap.size+1+1, 0, none⟩) (by simp) (.int .i64 (0))).far (p := ⟨w.heap.size+1+1, 1, none⟩) (by simp) (.int .i64 (0)))
      have hg := ((((HG4.out.far (p := ⟨w.heap.size+1, 0, none⟩) (by simp) (.int .i64 (0))).far (p := ⟨w.heap.size+1, 1, none⟩) (by simp) (.int .i64 (0))).set_ 0 (.int .i64 (0))).set_ 1 (.int .i64 (0)))
      refine bodyPost_ret (results_rows2 rfl _ _ _ _ 24 24 _ _ (0, 0) (0, 0) _ _ rfl hl rfl hg Try.underlying24 rfl (by kernel_rfl) Try.underlying24 rfl (by kernel_rfl)) rfl ?_
      refine ⟨ret_val ?_, ((((HB4.out.setCell (p := ⟨w.heap.size+1, 0, none⟩) (by simp) _).setCell (p := ⟨w.heap.size+1, 1, none⟩) (by simp) _).setCell (p := ⟨w.heap.size+1+1, 0, none⟩) (by simp; omega) _).setCell (p := ⟨w.heap.size+1+1, 1, none⟩) (by simp; omega) _)⟩
      rw [HE.out, HGO.out, hS0.out, hse.out, HZ.out]
      simp [prE, orZ]
  have HE : Hid (losE L S ev se = 0) := Lib.hid (by rw [losE, if_neg (by rw [H1.out]; simp), if_pos ⟨b1, b2, b3, b4⟩, if_pos (by omega)])
  have hp : 0 < L - ev := by omega
  have hz' : (L - ev == 0) = false := by simpa using hz
  have hG := share_range (S := S) hp a3 b3 b4
  have hm0 : 0 ≤ S * se := Int.mul_nonneg a3 b3
  have hm1 : S * se ≤ 1073741824 * 1073741824 := Int.mul_le_mul a4 (by omega) b3 (by omega)
  have hgo : losG L S ev se = S * se / (L - ev) := by rw [losG, if_pos hp]
  obtain ⟨G, hGG⟩ : ∃ G, G = S * se / (L - ev) := ⟨_, rfl⟩
  have HSH : Hid (Calls Try.prog 31 #[.int .i64 S, .int .i64 se, .int .i64 (L - ev)] w4 fun e w' => e = .returned (.int .i64 G) ∧ w4 = w') := Lib.hid (by rw [hGG]; exact share_31 S se (L - ev) w4 hm0 (by omega) hp (by omega))
  rw [← hGG] at hG hgo
  have HGO := Lib.hid hgo
  clear hGG hgo hm0 hm1 hz
  obtain ⟨g0, g1⟩ := hG
  go_wp2_with fail
  refine HSH.out.mono ?_
  rintro e wa ⟨rfl, rfl⟩
  go_upto_region 11 with fail
  obtain ⟨w5, hw5⟩ : ∃ zz, zz = w4.alloc (.cells #[.int .i64 se, .int .i64 G] 24) := ⟨_, rfl⟩
  have HT5 : Hid (Blk w5 w4.heap.size 24 #[.int .i64 se, .int .i64 G]) := Lib.hid (hw5 ▸ Blk.new _ _ _)
  have HW5 := Lib.hid (show Blk w5 w.heap.size 24 _ from hw5 ▸ HW4.out.alloc _)
  have HL5 := Lib.hid (show Blk w5 (w.heap.size+1) 24 _ from hw5 ▸ HL4.out.alloc _)
  have HG5 := Lib.hid (show Blk w5 (w.heap.size+1+1) 24 _ from hw5 ▸ HG4.out.alloc _)
  have HB5 := Lib.hid (show Below w.heap.size w w5 from hw5 ▸ HB4.out.alloc (by omega) _)
  rw [← hw5]
  clear hw5 c0 c1 d0 d1 d2 d3 f0 f1 f2 f3 HSH
  have hs5 := HT5.out.lt
  have c0 : w5.cell? ⟨w.heap.size, 0, none⟩ = some (.int .i64 L) := HW5.out.cell 0
  have c1 : w5.cell? ⟨w.heap.size, 1, none⟩ = some (.int .i64 S) := HW5.out.cell 1
  have d0 : w5.cell? ⟨w.heap.size+1, 0, none⟩ = some (.int .i64 0) := HL5.out.cell 0
  have d1 : w5.cell? ⟨w.heap.size+1, 1, none⟩ = some (.int .i64 0) := HL5.out.cell 1
  have d2 : w5.cell? ⟨w.heap.size+1+1, 0, none⟩ = some (.int .i64 0) := HG5.out.cell 0
  have d3 : w5.cell? ⟨w.heap.size+1+1, 1, none⟩ = some (.int .i64 0) := HG5.out.cell 1
  have f0 := HL5.out.frozen 0
  have f1 := HL5.out.frozen 1
  have f2 := HG5.out.frozen 0
  have f3 := HG5.out.frozen 1
  have t0 : w5.cell? ⟨w4.heap.size, 0, none⟩ = some (.int .i64 se) := HT5.out.cell 0
  have t1 : w5.cell? ⟨w4.heap.size, 1, none⟩ = some (.int .i64 G) := HT5.out.cell 1
  have hw1 : IntKind.i64.wrap (L - ev - se) = L - ev - se := IntWalk.i64_in _ ⟨by omega, by omega⟩
  have hw2 : IntKind.i64.wrap (S - G) = S - G := IntWalk.i64_in _ ⟨by omega, by omega⟩
  go_region
  all_goals
    go_wp2_with fail
    have hl := ((((HL5.out.set_ 0 (.int .i64 ((L-ev-se)))).set_ 1 (.int .i64 ((S-G)))).far (p := ⟨w.heap.size+1+1, 0, none⟩) (by simp) (.int .i64 (se))).far (p := ⟨w.heap.size+1+1, 1, none⟩) (by simp) (.int .i64 (G))).drewN 1
    have hg := ((((HG5.out.far (p := ⟨w.heap.size+1, 0, none⟩) (by simp) (.int .i64 ((L-ev-se)))).far (p := ⟨w.heap.size+1, 1, none⟩) (by simp) (.int .i64 ((S-G)))).set_ 0 (.int .i64 (se))).set_ 1 (.int .i64 (G))).drewN 1
    refine bodyPost_ret (results_rows2 rfl _ _ _ _ 24 24 _ _ (0, 0) (0, 0) _ _ rfl hl rfl hg Try.underlying24 rfl (by kernel_rfl) Try.underlying24 rfl (by kernel_rfl)) rfl ?_
    refine ⟨ret_val ?_, below_quiet ((((HB5.out.setCell (p := ⟨w.heap.size+1, 0, none⟩) (by simp) _).setCell (p := ⟨w.heap.size+1, 1, none⟩) (by simp) _).setCell (p := ⟨w.heap.size+1+1, 0, none⟩) (by simp; omega) _).setCell (p := ⟨w.heap.size+1+1, 1, none⟩) (by simp; omega) _) ⟨1, rfl⟩⟩
    rw [HE.out, HGO.out]
    simp [prE, orZ]
end Go.Proofs.Ythmebjbaigiehaa
