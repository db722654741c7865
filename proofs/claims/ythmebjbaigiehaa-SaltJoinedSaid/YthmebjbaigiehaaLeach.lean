/- Contract of Leach. No condition. -/
import Derived.Test.YthmebjbaigiehaaRefLose
namespace Go.Proofs.Ythmebjbaigiehaa
open Go.RowKit

theorem lchE_bad {H A L S : Int} (h : ¬ ((1 ≤ H ∧ H ≤ 1073741824) ∧ (0 ≤ A ∧ A ≤ 1073741824) ∧ rt L S = true ∧ H + L ≤ 1073741824 ∧ A + S ≤ 1073741824)) : lchE H A L S = 430 := if_neg h

set_option maxRecDepth 100000 in
set_option maxHeartbeats 4000000 in
theorem Leach_19 (H A L S : Int) (w : World) :
    Calls Try.prog 19 #[.agg #[.int .i64 H, .int .i64 A], .agg #[.int .i64 L, .int .i64 S]] w fun e w' => e = .returned (prE (lchE H A L S) H (lchA H A L S) L (lchD H A L S)) ∧ Below w.heap.size w w' := by
  go_enter Try.func19, Try.ntmps19
  go_upto_region 1 with fail
  obtain ⟨w1, hw1⟩ : ∃ zz, zz = w.alloc (.cells #[.int .i64 H, .int .i64 A] 38) := ⟨_, rfl⟩
  have hz1 : w1.heap.size = w.heap.size + 1 := by rw [hw1]; simp
  obtain ⟨w2, hw2⟩ : ∃ zz, zz = w1.alloc (.cells #[.int .i64 L, .int .i64 S] 24) := ⟨_, rfl⟩
  have hz2 : w2.heap.size = w.heap.size + 1 + 1 := by rw [hw2]; simp [hz1]
  obtain ⟨w3, hw3⟩ : ∃ zz, zz = (w2.alloc (.cells #[.int .i64 0, .int .i64 0] 38)).alloc (.cells #[.int .i64 0, .int .i64 0] 24) := ⟨_, rfl⟩
  have HF3 : Hid (Blk w3 w.heap.size 38 #[.int .i64 H, .int .i64 A]) := Lib.hid (hw3 ▸ hw2 ▸ hw1 ▸ (((Blk.new _ _ _).alloc _).alloc _).alloc _)
  have HW3 : Hid (Blk w3 (w.heap.size+1) 24 #[.int .i64 L, .int .i64 S]) := Lib.hid (by have := ((Blk.new w1 24 #[.int .i64 L, .int .i64 S]).alloc (.cells #[.int .i64 0, .int .i64 0] 38)).alloc (.cells #[.int .i64 0, .int .i64 0] 24); rw [hz1, ← hw2, ← hw3] at this; exact this)
  have HG3 : Hid (Blk w3 (w.heap.size+1+1) 38 #[.int .i64 0, .int .i64 0]) := Lib.hid (by have := (Blk.new w2 38 #[.int .i64 0, .int .i64 0]).alloc (.cells #[.int .i64 0, .int .i64 0] 24); rw [hz2, ← hw3] at this; exact this)
  have HD3 : Hid (Blk w3 (w.heap.size+1+1+1) 24 #[.int .i64 0, .int .i64 0]) := Lib.hid (by have := Blk.new (w2.alloc (.cells #[.int .i64 0, .int .i64 0] 38)) 24 #[.int .i64 0, .int .i64 0]; rw [World.size_alloc, hz2, ← hw3] at this; exact this)
  have HB3 : Hid (Below w.heap.size w w3) := Lib.hid (by rw [hw3, hw2, hw1]; (repeat (first | exact Below.refl _ _ | exact below_alloc _ _ | refine Below.alloc ?_ (by simp; omega) _ | refine Below.alloc ?_ (by simp) _)))
  rw [← hw1, ← hw2, ← hw3]
  clear hw1 hw2 hw3 hz1 hz2
  have hs3 := HD3.out.lt
  have c0 : w3.cell? ⟨w.heap.size, 0, none⟩ = some (.int .i64 H) := HF3.out.cell 0
  have c1 : w3.cell? ⟨w.heap.size, 1, none⟩ = some (.int .i64 A) := HF3.out.cell 1
  have c2 : w3.cell? ⟨w.heap.size+1, 0, none⟩ = some (.int .i64 L) := HW3.out.cell 0
  have c3 : w3.cell? ⟨w.heap.size+1, 1, none⟩ = some (.int .i64 S) := HW3.out.cell 1
  have d0 : w3.cell? ⟨w.heap.size+1+1, 0, none⟩ = some (.int .i64 0) := HG3.out.cell 0
  have d1 : w3.cell? ⟨w.heap.size+1+1, 1, none⟩ = some (.int .i64 0) := HG3.out.cell 1
  have d2 : w3.cell? ⟨w.heap.size+1+1+1, 0, none⟩ = some (.int .i64 0) := HD3.out.cell 0
  have d3 : w3.cell? ⟨w.heap.size+1+1+1, 1, none⟩ = some (.int .i64 0) := HD3.out.cell 1
  have f0 := HG3.out.frozen 0
  have f1 := HG3.out.frozen 1
  have f2 := HD3.out.frozen 0
  have f3 := HD3.out.frozen 1
  by_cases b1 : H < 1
  · have HE : Hid (lchE H A L S = 430) := Lib.hid (lchE_bad (by omega))
    go_wp2_with fail
    go_region
    go_wp2_with fail
    have hl := ((((HG3.out.set_ 0 (.int .i64 (0))).set_ 1 (.int .i64 (0))).far (p := ⟨w.heap.size+1+1+1, 0, none⟩) (by simp) (.int .i64 (0))).far (p := ⟨w.heap.size+1+1+1, 1, none⟩) (by simp) (.int .i64 (0)))
    have hg := ((((HD3.out.far (p := ⟨w.heap.size+1+1, 0, none⟩) (by simp) (.int .i64 (0))).far (p := ⟨w.heap.size+1+1, 1, none⟩) (by simp) (.int .i64 (0))).set_ 0 (.int .i64 (0))).set_ 1 (.int .i64 (0)))
    have hbw := ((((HB3.out.setCell (p := ⟨w.heap.size+1+1, 0, none⟩) (by simp; omega) (.int .i64 (0))).setCell (p := ⟨w.heap.size+1+1, 1, none⟩) (by simp; omega) (.int .i64 (0))).setCell (p := ⟨w.heap.size+1+1+1, 0, none⟩) (by simp; omega) (.int .i64 (0))).setCell (p := ⟨w.heap.size+1+1+1, 1, none⟩) (by simp; omega) (.int .i64 (0)))
    first | refine bodyPost_ret (results_rows2 rfl _ _ _ _ 38 24 _ _ (0, 0) (0, 0) _ _ rfl hl rfl hg Try.underlying38 rfl (by kernel_rfl) Try.underlying24 rfl (by kernel_rfl)) rfl ⟨ret_val ?_, hbw⟩ | refine bodyPost_ret (results_rows2 rfl _ _ _ _ 38 24 _ _ (0, 0) (0, 0) _ _ rfl (hl.drewN 1) rfl (hg.drewN 1) Try.underlying38 rfl (by kernel_rfl) Try.underlying24 rfl (by kernel_rfl)) rfl ⟨ret_val ?_, below_quiet hbw ⟨1, rfl⟩⟩
    rw [HE.out]
    simp [prE, orZ]
  have b1' : 1 ≤ H := by omega
  go_wp2_with fail
  refine (limited_two _ _ _ _ (by simp)).mono ?_
  rintro e w4 ⟨rfl, hw4⟩
  have hb4 : Below w3.heap.size w3 w4 := hw4 ▸ below_alloc _ _
  clear hw4 c0 c1 c2 c3 d0 d1 d2 d3 f0 f1 f2 f3
  have HB4 := Lib.hid (HB3.out.trans (hb4.mono (by omega)))
  have HF4 := Lib.hid (HF3.out.below hb4 (by omega))
  have HW4 := Lib.hid (HW3.out.below hb4 (by omega))
  have HG4 := Lib.hid (HG3.out.below hb4 (by omega))
  have HD4 := Lib.hid (HD3.out.below hb4 (by omega))
  clear hb4
  have hs4 := HD4.out.lt
  have c0 : w4.cell? ⟨w.heap.size, 0, none⟩ = some (.int .i64 H) := HF4.out.cell 0
  have c1 : w4.cell? ⟨w.heap.size, 1, none⟩ = some (.int .i64 A) := HF4.out.cell 1
  have c2 : w4.cell? ⟨w.heap.size+1, 0, none⟩ = some (.int .i64 L) := HW4.out.cell 0
  have c3 : w4.cell? ⟨w.heap.size+1, 1, none⟩ = some (.int .i64 S) := HW4.out.cell 1
  have d0 : w4.cell? ⟨w.heap.size+1+1, 0, none⟩ = some (.int .i64 0) := HG4.out.cell 0
  have d1 : w4.cell? ⟨w.heap.size+1+1, 1, none⟩ = some (.int .i64 0) := HG4.out.cell 1
  have d2 : w4.cell? ⟨w.heap.size+1+1+1, 0, none⟩ = some (.int .i64 0) := HD4.out.cell 0
  have d3 : w4.cell? ⟨w.heap.size+1+1+1, 1, none⟩ = some (.int .i64 0) := HD4.out.cell 1
  have f0 := HG4.out.frozen 0
  have f1 := HG4.out.frozen 1
  have f2 := HD4.out.frozen 0
  have f3 := HD4.out.frozen 1
  cases h2 : (inB 1073741824 H && inB 1073741824 A)
  · have HE : Hid (lchE H A L S = 430) := Lib.hid (lchE_bad (fun h => by rw [inB_iff.2 ⟨by omega, h.1.2⟩, inB_iff.2 h.2.1] at h2; cases h2))
    clear h2
    go_wp2_with fail
    go_region
    go_wp2_with fail
    have hl := ((((HG4.out.set_ 0 (.int .i64 (0))).set_ 1 (.int .i64 (0))).far (p := ⟨w.heap.size+1+1+1, 0, none⟩) (by simp) (.int .i64 (0))).far (p := ⟨w.heap.size+1+1+1, 1, none⟩) (by simp) (.int .i64 (0)))
    have hg := ((((HD4.out.far (p := ⟨w.heap.size+1+1, 0, none⟩) (by simp) (.int .i64 (0))).far (p := ⟨w.heap.size+1+1, 1, none⟩) (by simp) (.int .i64 (0))).set_ 0 (.int .i64 (0))).set_ 1 (.int .i64 (0)))
    have hbw := ((((HB4.out.setCell (p := ⟨w.heap.size+1+1, 0, none⟩) (by simp; omega) (.int .i64 (0))).setCell (p := ⟨w.heap.size+1+1, 1, none⟩) (by simp; omega) (.int .i64 (0))).setCell (p := ⟨w.heap.size+1+1+1, 0, none⟩) (by simp; omega) (.int .i64 (0))).setCell (p := ⟨w.heap.size+1+1+1, 1, none⟩) (by simp; omega) (.int .i64 (0)))
    first | refine bodyPost_ret (results_rows2 rfl _ _ _ _ 38 24 _ _ (0, 0) (0, 0) _ _ rfl hl rfl hg Try.underlying38 rfl (by kernel_rfl) Try.underlying24 rfl (by kernel_rfl)) rfl ⟨ret_val ?_, hbw⟩ | refine bodyPost_ret (results_rows2 rfl _ _ _ _ 38 24 _ _ (0, 0) (0, 0) _ _ rfl (hl.drewN 1) rfl (hg.drewN 1) Try.underlying38 rfl (by kernel_rfl) Try.underlying24 rfl (by kernel_rfl)) rfl ⟨ret_val ?_, below_quiet hbw ⟨1, rfl⟩⟩
    rw [HE.out]
    simp [prE, orZ]
  simp only [Bool.and_eq_true, inB_iff] at h2
  obtain ⟨⟨_, a2⟩, a3, a4⟩ := h2
  go_wp2_with fail
  refine (right_25 _ _ _).mono ?_
  rintro e w5 ⟨rfl, hb5⟩
  clear c0 c1 c2 c3 d0 d1 d2 d3 f0 f1 f2 f3
  have HB5 := Lib.hid (HB4.out.trans (hb5.mono (by omega)))
  have HF5 := Lib.hid (HF4.out.below hb5 (by omega))
  have HW5 := Lib.hid (HW4.out.below hb5 (by omega))
  have HG5 := Lib.hid (HG4.out.below hb5 (by omega))
  have HD5 := Lib.hid (HD4.out.below hb5 (by omega))
  clear hb5
  have hs5 := HD5.out.lt
  have c0 : w5.cell? ⟨w.heap.size, 0, none⟩ = some (.int .i64 H) := HF5.out.cell 0
  have c1 : w5.cell? ⟨w.heap.size, 1, none⟩ = some (.int .i64 A) := HF5.out.cell 1
  have c2 : w5.cell? ⟨w.heap.size+1, 0, none⟩ = some (.int .i64 L) := HW5.out.cell 0
  have c3 : w5.cell? ⟨w.heap.size+1, 1, none⟩ = some (.int .i64 S) := HW5.out.cell 1
  have d0 : w5.cell? ⟨w.heap.size+1+1, 0, none⟩ = some (.int .i64 0) := HG5.out.cell 0
  have d1 : w5.cell? ⟨w.heap.size+1+1, 1, none⟩ = some (.int .i64 0) := HG5.out.cell 1
  have d2 : w5.cell? ⟨w.heap.size+1+1+1, 0, none⟩ = some (.int .i64 0) := HD5.out.cell 0
  have d3 : w5.cell? ⟨w.heap.size+1+1+1, 1, none⟩ = some (.int .i64 0) := HD5.out.cell 1
  have f0 := HG5.out.frozen 0
  have f1 := HG5.out.frozen 1
  have f2 := HD5.out.frozen 0
  have f3 := HD5.out.frozen 1
  cases h3 : rt L S
  · have HE : Hid (lchE H A L S = 430) := Lib.hid (lchE_bad (fun h => by rw [h.2.2.1] at h3; cases h3))
    clear h3
    go_wp2_with fail
    go_region
    go_wp2_with fail
    have hl := ((((HG5.out.set_ 0 (.int .i64 (0))).set_ 1 (.int .i64 (0))).far (p := ⟨w.heap.size+1+1+1, 0, none⟩) (by simp) (.int .i64 (0))).far (p := ⟨w.heap.size+1+1+1, 1, none⟩) (by simp) (.int .i64 (0)))
    have hg := ((((HD5.out.far (p := ⟨w.heap.size+1+1, 0, none⟩) (by simp) (.int .i64 (0))).far (p := ⟨w.heap.size+1+1, 1, none⟩) (by simp) (.int .i64 (0))).set_ 0 (.int .i64 (0))).set_ 1 (.int .i64 (0)))
    have hbw := ((((HB5.out.setCell (p := ⟨w.heap.size+1+1, 0, none⟩) (by simp; omega) (.int .i64 (0))).setCell (p := ⟨w.heap.size+1+1, 1, none⟩) (by simp; omega) (.int .i64 (0))).setCell (p := ⟨w.heap.size+1+1+1, 0, none⟩) (by simp; omega) (.int .i64 (0))).setCell (p := ⟨w.heap.size+1+1+1, 1, none⟩) (by simp; omega) (.int .i64 (0)))
    first | refine bodyPost_ret (results_rows2 rfl _ _ _ _ 38 24 _ _ (0, 0) (0, 0) _ _ rfl hl rfl hg Try.underlying38 rfl (by kernel_rfl) Try.underlying24 rfl (by kernel_rfl)) rfl ⟨ret_val ?_, hbw⟩ | refine bodyPost_ret (results_rows2 rfl _ _ _ _ 38 24 _ _ (0, 0) (0, 0) _ _ rfl (hl.drewN 1) rfl (hg.drewN 1) Try.underlying38 rfl (by kernel_rfl) Try.underlying24 rfl (by kernel_rfl)) rfl ⟨ret_val ?_, below_quiet hbw ⟨1, rfl⟩⟩
    rw [HE.out]
    simp [prE, orZ]
  have H3 := Lib.hid h3
  obtain ⟨⟨a5, a6⟩, ⟨a7, a8⟩, _⟩ := rt_iff.1 h3
  clear h3
  go_wp2_with fail
  refine (limited_two _ _ _ _ (by simp)).mono ?_
  rintro e w6 ⟨rfl, hw6⟩
  have hb6 : Below w5.heap.size w5 w6 := hw6 ▸ below_alloc _ _
  clear hw6 c0 c1 c2 c3 d0 d1 d2 d3 f0 f1 f2 f3
  have HB6 := Lib.hid (HB5.out.trans (hb6.mono (by omega)))
  have HF6 := Lib.hid (HF5.out.below hb6 (by omega))
  have HW6 := Lib.hid (HW5.out.below hb6 (by omega))
  have HG6 := Lib.hid (HG5.out.below hb6 (by omega))
  have HD6 := Lib.hid (HD5.out.below hb6 (by omega))
  clear hb6
  have hs6 := HD6.out.lt
  have c0 : w6.cell? ⟨w.heap.size, 0, none⟩ = some (.int .i64 H) := HF6.out.cell 0
  have c1 : w6.cell? ⟨w.heap.size, 1, none⟩ = some (.int .i64 A) := HF6.out.cell 1
  have c2 : w6.cell? ⟨w.heap.size+1, 0, none⟩ = some (.int .i64 L) := HW6.out.cell 0
  have c3 : w6.cell? ⟨w.heap.size+1, 1, none⟩ = some (.int .i64 S) := HW6.out.cell 1
  have d0 : w6.cell? ⟨w.heap.size+1+1, 0, none⟩ = some (.int .i64 0) := HG6.out.cell 0
  have d1 : w6.cell? ⟨w.heap.size+1+1, 1, none⟩ = some (.int .i64 0) := HG6.out.cell 1
  have d2 : w6.cell? ⟨w.heap.size+1+1+1, 0, none⟩ = some (.int .i64 0) := HD6.out.cell 0
  have d3 : w6.cell? ⟨w.heap.size+1+1+1, 1, none⟩ = some (.int .i64 0) := HD6.out.cell 1
  have f0 := HG6.out.frozen 0
  have f1 := HG6.out.frozen 1
  have f2 := HD6.out.frozen 0
  have f3 := HD6.out.frozen 1
  cases h4 : (inB 1073741824 (H + L) && inB 1073741824 (A + S))
  · have HE : Hid (lchE H A L S = 430) := Lib.hid (lchE_bad (fun h => by rw [inB_iff.2 ⟨by omega, h.2.2.2.1⟩, inB_iff.2 ⟨by omega, h.2.2.2.2⟩] at h4; cases h4))
    clear h4
    go_wp2_with fail
    go_region
    go_wp2_with fail
    have hl := ((((HG6.out.set_ 0 (.int .i64 (0))).set_ 1 (.int .i64 (0))).far (p := ⟨w.heap.size+1+1+1, 0, none⟩) (by simp) (.int .i64 (0))).far (p := ⟨w.heap.size+1+1+1, 1, none⟩) (by simp) (.int .i64 (0)))
    have hg := ((((HD6.out.far (p := ⟨w.heap.size+1+1, 0, none⟩) (by simp) (.int .i64 (0))).far (p := ⟨w.heap.size+1+1, 1, none⟩) (by simp) (.int .i64 (0))).set_ 0 (.int .i64 (0))).set_ 1 (.int .i64 (0)))
    have hbw := ((((HB6.out.setCell (p := ⟨w.heap.size+1+1, 0, none⟩) (by simp; omega) (.int .i64 (0))).setCell (p := ⟨w.heap.size+1+1, 1, none⟩) (by simp; omega) (.int .i64 (0))).setCell (p := ⟨w.heap.size+1+1+1, 0, none⟩) (by simp; omega) (.int .i64 (0))).setCell (p := ⟨w.heap.size+1+1+1, 1, none⟩) (by simp; omega) (.int .i64 (0)))
    first | refine bodyPost_ret (results_rows2 rfl _ _ _ _ 38 24 _ _ (0, 0) (0, 0) _ _ rfl hl rfl hg Try.underlying38 rfl (by kernel_rfl) Try.underlying24 rfl (by kernel_rfl)) rfl ⟨ret_val ?_, hbw⟩ | refine bodyPost_ret (results_rows2 rfl _ _ _ _ 38 24 _ _ (0, 0) (0, 0) _ _ rfl (hl.drewN 1) rfl (hg.drewN 1) Try.underlying38 rfl (by kernel_rfl) Try.underlying24 rfl (by kernel_rfl)) rfl ⟨ret_val ?_, below_quiet hbw ⟨1, rfl⟩⟩
    rw [HE.out]
    simp [prE, orZ]
  have H4 := Lib.hid h4
  simp only [Bool.and_eq_true, inB_iff] at h4
  obtain ⟨⟨_, a9⟩, _, a10⟩ := h4
  have HE : Hid (lchE H A L S = 0) := Lib.hid (if_pos ⟨⟨b1', a2⟩, ⟨a3, a4⟩, H3.out, a9, a10⟩)
  obtain ⟨D, hD⟩ : ∃ D, D = tkA (H + L) (A + S) 0 0 L := ⟨_, rfl⟩
  have hD0 := tkA_share (L := H + L) (S := A + S) (n := L) (by omega) a5 (by omega)
  rw [← hD] at hD0
  obtain ⟨g0, g1⟩ := hD0
  have HDV : Hid (lchD H A L S = D) := Lib.hid (by rw [hD, lchD, tkA, if_pos (by omega), Int.zero_add])
  have HAV : Hid (lchA H A L S = A + S - D) := Lib.hid (by rw [lchA, HDV.out])
  go_upto_region 4 with fail
  obtain ⟨w7, hw7⟩ : ∃ zz, zz = w6.alloc (.cells #[.int .i64 (H + L), .int .i64 (A + S), .int .i64 0, .int .i64 0] 56) := ⟨_, rfl⟩
  have HV7 : Hid (Blk w7 w6.heap.size 56 #[.int .i64 (H + L), .int .i64 (A + S), .int .i64 0, .int .i64 0]) := Lib.hid (hw7 ▸ Blk.new _ _ _)
  have hb7 : Below w6.heap.size w6 w7 := hw7 ▸ below_alloc _ _
  rw [← hw7]
  clear hw7 c0 c1 c2 c3 d0 d1 d2 d3 f0 f1 f2 f3
  have HB7 := Lib.hid (HB6.out.trans (hb7.mono (by omega)))
  have HF7 := Lib.hid (HF6.out.below hb7 (by omega))
  have HW7 := Lib.hid (HW6.out.below hb7 (by omega))
  have HG7 := Lib.hid (HG6.out.below hb7 (by omega))
  have HD7 := Lib.hid (HD6.out.below hb7 (by omega))
  clear hb7
  have hs7 := HD7.out.lt
  have c0 : w7.cell? ⟨w.heap.size, 0, none⟩ = some (.int .i64 H) := HF7.out.cell 0
  have c1 : w7.cell? ⟨w.heap.size, 1, none⟩ = some (.int .i64 A) := HF7.out.cell 1
  have c2 : w7.cell? ⟨w.heap.size+1, 0, none⟩ = some (.int .i64 L) := HW7.out.cell 0
  have c3 : w7.cell? ⟨w.heap.size+1, 1, none⟩ = some (.int .i64 S) := HW7.out.cell 1
  have d0 : w7.cell? ⟨w.heap.size+1+1, 0, none⟩ = some (.int .i64 0) := HG7.out.cell 0
  have d1 : w7.cell? ⟨w.heap.size+1+1, 1, none⟩ = some (.int .i64 0) := HG7.out.cell 1
  have d2 : w7.cell? ⟨w.heap.size+1+1+1, 0, none⟩ = some (.int .i64 0) := HD7.out.cell 0
  have d3 : w7.cell? ⟨w.heap.size+1+1+1, 1, none⟩ = some (.int .i64 0) := HD7.out.cell 1
  have f0 := HG7.out.frozen 0
  have f1 := HG7.out.frozen 1
  have f2 := HD7.out.frozen 0
  have f3 := HD7.out.frozen 1
  have hv7 := HV7.out.lt
  have HTK : Hid (Calls Try.prog 28 #[.pointer (some ⟨w6.heap.size, 0, none⟩), .int .i64 L] w7 fun e w' => e = .returned (.agg #[.int .i64 L, .int .i64 D]) ∧ Blk w' w6.heap.size 56 #[.int .i64 (H + L), .int .i64 (A + S), .int .i64 L, .int .i64 D] ∧ w7.grownBy w' (some w6.heap.size)) :=
    Lib.hid ((take_28 (H + L) (A + S) 0 0 L w6.heap.size w7 HV7.out ⟨by omega, by omega⟩ ⟨by omega, by omega⟩ ⟨a5, a6⟩ ⟨by omega, by omega⟩ ⟨by omega, by omega⟩).mono fun e w' h => by
      rw [← hD, Int.sub_zero, Int.zero_add] at h
      exact h)
  clear hD
  go_wp2_with fail
  refine HTK.out.mono ?_
  rintro e w8 ⟨rfl, hv8, hg8⟩
  have HV8 := Lib.hid hv8
  have hb8 : Below w6.heap.size w7 w8 := grown_below hg8 (by omega) (Nat.le_refl _)
  have HB8 := Lib.hid (HB7.out.trans (hb8.mono (by omega)))
  have HF8 := Lib.hid (HF7.out.below hb8 (by omega))
  have HG8 := Lib.hid (HG7.out.below hb8 (by omega))
  have HD8 := Lib.hid (HD7.out.below hb8 (by omega))
  clear hv8 hg8 hb8 HTK HV7 c0 c1 c2 c3 d0 d1 d2 d3 f0 f1 f2 f3
  have hs8 := HV8.out.lt
  have d2 : w8.cell? ⟨w.heap.size+1+1+1, 0, none⟩ = some (.int .i64 0) := HD8.out.cell 0
  have d3 : w8.cell? ⟨w.heap.size+1+1+1, 1, none⟩ = some (.int .i64 0) := HD8.out.cell 1
  have f2 := HD8.out.frozen 0
  have f3 := HD8.out.frozen 1
  go_upto_region 5 with fail
  have HV9 := Lib.hid ((HV8.out.far (p := ⟨w.heap.size+1+1+1, 0, none⟩) (by simp; omega) (.int .i64 L)).far (p := ⟨w.heap.size+1+1+1, 1, none⟩) (by simp; omega) (.int .i64 D))
  have HF9 := Lib.hid ((HF8.out.far (p := ⟨w.heap.size+1+1+1, 0, none⟩) (by simp; omega) (.int .i64 L)).far (p := ⟨w.heap.size+1+1+1, 1, none⟩) (by simp; omega) (.int .i64 D))
  have HG9 := Lib.hid ((HG8.out.far (p := ⟨w.heap.size+1+1+1, 0, none⟩) (by simp) (.int .i64 L)).far (p := ⟨w.heap.size+1+1+1, 1, none⟩) (by simp) (.int .i64 D))
  have HD9 : Hid (Blk ((w8.setCell ⟨w.heap.size+1+1+1, 0, none⟩ (.int .i64 L)).setCell ⟨w.heap.size+1+1+1, 1, none⟩ (.int .i64 D)) (w.heap.size+1+1+1) 24 #[.int .i64 L, .int .i64 D]) := Lib.hid ((HD8.out.set_ 0 (.int .i64 L)).set_ 1 (.int .i64 D))
  have HB9 := Lib.hid ((HB8.out.setCell (p := ⟨w.heap.size+1+1+1, 0, none⟩) (by simp; omega) (.int .i64 L)).setCell (p := ⟨w.heap.size+1+1+1, 1, none⟩) (by simp; omega) (.int .i64 D))
  clear d2 d3 f2 f3 HV8 HF8 HG8 HD8 HB8
  generalize (w8.setCell ⟨w.heap.size+1+1+1, 0, none⟩ (.int .i64 L)).setCell ⟨w.heap.size+1+1+1, 1, none⟩ (.int .i64 D) = w9 at HV9 HF9 HG9 HD9 HB9 ⊢
  have hs9 := HV9.out.lt
  have HRS : Hid (Calls Try.prog 29 #[.pointer (some ⟨w6.heap.size, 0, none⟩)] w9.drew fun e w' => e = .returned (.agg #[.int .i64 H, .int .i64 (A + S - D)]) ∧ Below w9.heap.size w9 w' ∧
      w'.cell? ⟨w.heap.size, 0, none⟩ = some (.int .i64 H) ∧ w'.cell? ⟨w.heap.size+1+1, 0, none⟩ = some (.int .i64 0) ∧ w'.cell? ⟨w.heap.size+1+1, 1, none⟩ = some (.int .i64 0) ∧ w'.cell? ⟨w.heap.size+1+1+1, 0, none⟩ = some (.int .i64 L) ∧ w'.cell? ⟨w.heap.size+1+1+1, 1, none⟩ = some (.int .i64 D) ∧
      w'.frozen? ⟨w.heap.size+1+1, 0, none⟩ = false ∧ w'.frozen? ⟨w.heap.size+1+1, 1, none⟩ = false ∧ w'.frozen? ⟨w.heap.size+1+1+1, 0, none⟩ = false ∧ w'.frozen? ⟨w.heap.size+1+1+1, 1, none⟩ = false) :=
    Lib.hid ((rest_29 (H + L) (A + S) L D w6.heap.size w9.drew (HV9.out.drewN 1) ⟨by omega, by omega⟩ ⟨by omega, by omega⟩ ⟨by omega, by omega⟩ ⟨by omega, by omega⟩).mono fun e w' h => by
      rw [show H + L - L = H by omega] at h
      have hb : Below w9.heap.size w9 w' := (Below.refl w9.heap.size w9).drew.trans h.2
      have x := HG9.out.below hb (by omega)
      have y := HD9.out.below hb (by omega)
      have z := HF9.out.below hb (by omega)
      exact ⟨h.1, hb, z.cell 0, x.cell 0, x.cell 1, y.cell 0, y.cell 1, x.frozen 0, x.frozen 1, y.frozen 0, y.frozen 1⟩)
  have c0 : w9.cell? ⟨w.heap.size, 0, none⟩ = some (.int .i64 H) := HF9.out.cell 0
  have d2 : w9.cell? ⟨w.heap.size+1+1+1, 0, none⟩ = some (.int .i64 L) := HD9.out.cell 0
  have d3 : w9.cell? ⟨w.heap.size+1+1+1, 1, none⟩ = some (.int .i64 D) := HD9.out.cell 1
  have hfld : ∀ W, Sem.run Try.prog (Instr.field 24 (.agg #[.int .i64 H, .int .i64 (A + S - D)]) 1) W = .ok (.int .i64 (A + S - D)) W := fun _ => by kernel_rfl
  go_region_with (first | (go_at_call 29; refine HRS.out.mono ?_; rintro e w' ⟨rfl, hbl, k0, k1, k2, k3, k4, k5, k6, k7, k8⟩))
  all_goals
    go_wp2_with fail
    have HGn := Lib.hid (HG9.out.below hbl (by omega))
    have HDn := Lib.hid (HD9.out.below hbl (by omega))
    have HBn := Lib.hid (HB9.out.trans (hbl.mono (by omega)))
    have hl := ((((HGn.out.set_ 0 (.int .i64 (H))).set_ 1 (.int .i64 ((A+S-D)))).far (p := ⟨w.heap.size+1+1+1, 0, none⟩) (by simp) (.int .i64 (L))).far (p := ⟨w.heap.size+1+1+1, 1, none⟩) (by simp) (.int .i64 (D)))
    have hg := ((((HDn.out.far (p := ⟨w.heap.size+1+1, 0, none⟩) (by simp) (.int .i64 (H))).far (p := ⟨w.heap.size+1+1, 1, none⟩) (by simp) (.int .i64 ((A+S-D)))).set_ 0 (.int .i64 (L))).set_ 1 (.int .i64 (D)))
    have hbw := ((((HBn.out.setCell (p := ⟨w.heap.size+1+1, 0, none⟩) (by simp; omega) (.int .i64 (H))).setCell (p := ⟨w.heap.size+1+1, 1, none⟩) (by simp; omega) (.int .i64 ((A+S-D)))).setCell (p := ⟨w.heap.size+1+1+1, 0, none⟩) (by simp; omega) (.int .i64 (L))).setCell (p := ⟨w.heap.size+1+1+1, 1, none⟩) (by simp; omega) (.int .i64 (D)))
    first | refine bodyPost_ret (results_rows2 rfl _ _ _ _ 38 24 _ _ (0, 0) (0, 0) _ _ rfl hl rfl hg Try.underlying38 rfl (by kernel_rfl) Try.underlying24 rfl (by kernel_rfl)) rfl ⟨ret_val ?_, hbw⟩ | refine bodyPost_ret (results_rows2 rfl _ _ _ _ 38 24 _ _ (0, 0) (0, 0) _ _ rfl (hl.drewN 1) rfl (hg.drewN 1) Try.underlying38 rfl (by kernel_rfl) Try.underlying24 rfl (by kernel_rfl)) rfl ⟨ret_val ?_, below_quiet hbw ⟨1, rfl⟩⟩
    rw [HE.out, HAV.out, HDV.out]
    simp [prE, orZ, Act.put]
end Go.Proofs.Ythmebjbaigiehaa
