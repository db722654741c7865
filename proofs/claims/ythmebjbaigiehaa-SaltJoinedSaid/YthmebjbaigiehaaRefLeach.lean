/- Contract of the reference's Leach. No condition but that the numbers are machine integers. -/
import Derived.Test.YthmebjbaigiehaaLeach
import Derived.Deep.RegionHeld3
namespace Go.Proofs.Ythmebjbaigiehaa
open Go.RowKit

set_option maxRecDepth 100000 in
set_option maxHeartbeats 4000000 in
theorem ref_Leach_20 (H A L S : Int) (w : World) :
    Calls Try.prog 20 #[.agg #[.int .i64 H, .int .i64 A], .agg #[.int .i64 L, .int .i64 S]] w fun e w' => e = .returned (prE (lchE H A L S) H (lchA H A L S) L (lchD H A L S)) ∧ Below w.heap.size w w' := by
  go_enter Try.func20, Try.ntmps20
  go_upto_region 1 with fail
  obtain ⟨w1, hw1⟩ : ∃ zz, zz = w.alloc (.cells #[.int .i64 H, .int .i64 A] 38) := ⟨_, rfl⟩
  have hz1 : w1.heap.size = w.heap.size + 1 := by rw [hw1]; simp
  obtain ⟨w2, hw2⟩ : ∃ zz, zz = w1.alloc (.cells #[.int .i64 L, .int .i64 S] 24) := ⟨_, rfl⟩
  have hz2 : w2.heap.size = w.heap.size + 1 + 1 := by rw [hw2]; simp [hz1]
  obtain ⟨w3, hw3⟩ : ∃ zz, zz = (w2.alloc (.cells #[.int .i64 0, .int .i64 0] 38)).alloc (.cells #[.int .i64 0, .int .i64 0] 24) := ⟨_, rfl⟩
  have HF3 : Hid (Blk w3 w.heap.size 38 #[.int .i64 H, .int .i64 A]) := Lib.hid (hw3 ▸ hw2 ▸ hw1 ▸ (((Blk.new _ _ _).alloc _).alloc _).alloc _)
  have HW3 : Hid (Blk w3 (w.heap.size+1) 24 #[.int .i64 L, .int .i64 S]) := Lib.hid (by have := ((Blk.new w1 24 #[.int .i64 L, .int .i64 S]).alloc (.cells #[.int .i64 0, .int .i64 0] 38)).alloc (.cells #[.int .i64 0, .int .i64 0] 24); rw [hz1, ← hw2, ← hw3] at this; exact this)
  have HG3 : Hid (Blk w3 (w.heap.size+1+1) 38 #[.int .i64 0, .int .i64 0]) := Lib.hid (by have := (Blk.new w2 38 #[.int .i64 0, .int .i64 0]).alloc (.cells #[.int .i64 0, .int .i64 0] 24); rw [hz2, ← hw3] at this; exact this)
  have HD3 : Hid (Blk w3 (w.heap.size+1+1+1) 24 #[.int .i64 0, .int .i64 0]) := Lib.hid (by have := Blk.new (w2.alloc (.cells #[.int .i64 0, .int .i64 0] 38)) 24 #[.int .i64 0, .int .i64 0]; rw [World.size_alloc, hz2, ← hw3] at this; exact this)
  have HB3 : Hid (Below w.heap.size w w3) := Lib.hid (by rw [hw3, hw2, hw1]; (repeat (first | exact Below.refl _ _ | exact below_alloc _ _ | refine Below.alloc ?_ (by simp; omega) _ | refine Below.alloc ?_ (by simp) _)))
  rw [← hw1, ← hw2, ← hw3]
  clear hw1 hw2 hw3 hz1 hz2
  have hs3 := HD3.out.lt
  have c0 : w3.cell? ⟨w.heap.size, 0, none⟩ = some (.int .i64 H) := HF3.out.cell 0
  have c1 : w3.cell? ⟨w.heap.size, 1, none⟩ = some (.int .i64 A) := HF3.out.cell 1
  have c2 : w3.cell? ⟨w.heap.size+1, 0, none⟩ = some (.int .i64 L) := HW3.out.cell 0
  have c3 : w3.cell? ⟨w.heap.size+1, 1, none⟩ = some (.int .i64 S) := HW3.out.cell 1
  have d0 : w3.cell? ⟨w.heap.size+1+1, 0, none⟩ = some (.int .i64 0) := HG3.out.cell 0
  have d1 : w3.cell? ⟨w.heap.size+1+1, 1, none⟩ = some (.int .i64 0) := HG3.out.cell 1
  have d2 : w3.cell? ⟨w.heap.size+1+1+1, 0, none⟩ = some (.int .i64 0) := HD3.out.cell 0
  have d3 : w3.cell? ⟨w.heap.size+1+1+1, 1, none⟩ = some (.int .i64 0) := HD3.out.cell 1
  have f0 := HG3.out.frozen 0
  have f1 := HG3.out.frozen 1
  have f2 := HD3.out.frozen 0
  have f3 := HD3.out.frozen 1
  go_wp2_with fail
  refine (within_30 _ _ _ _).mono ?_
  rintro e wa ⟨rfl, rfl⟩
  by_cases hv : ¬ (1 ≤ H ∧ H ≤ 1073741824)
  · have HE : Hid (lchE H A L S = 430) := Lib.hid (lchE_bad (fun h => hv h.1))
    have hd : (decide (1 ≤ H) && decide (H ≤ 1073741824)) = false := by simp; omega
    rw [hd]
    clear hd
    go_wp2_with fail
    have hl := ((((HG3.out.set_ 0 (.int .i64 (0))).set_ 1 (.int .i64 (0))).far (p := ⟨w.heap.size+1+1+1, 0, none⟩) (by simp) (.int .i64 (0))).far (p := ⟨w.heap.size+1+1+1, 1, none⟩) (by simp) (.int .i64 (0)))
    have hg := ((((HD3.out.far (p := ⟨w.heap.size+1+1, 0, none⟩) (by simp) (.int .i64 (0))).far (p := ⟨w.heap.size+1+1, 1, none⟩) (by simp) (.int .i64 (0))).set_ 0 (.int .i64 (0))).set_ 1 (.int .i64 (0)))
    have hbw := ((((HB3.out.setCell (p := ⟨w.heap.size+1+1, 0, none⟩) (by simp; omega) (.int .i64 (0))).setCell (p := ⟨w.heap.size+1+1, 1, none⟩) (by simp; omega) (.int .i64 (0))).setCell (p := ⟨w.heap.size+1+1+1, 0, none⟩) (by simp; omega) (.int .i64 (0))).setCell (p := ⟨w.heap.size+1+1+1, 1, none⟩) (by simp; omega) (.int .i64 (0)))
    first | refine bodyPost_ret (results_rows2 rfl _ _ _ _ 38 24 _ _ (0, 0) (0, 0) _ _ rfl hl rfl hg Try.underlying38 rfl (by kernel_rfl) Try.underlying24 rfl (by kernel_rfl)) rfl ⟨ret_val ?_, hbw⟩ | refine bodyPost_ret (results_rows2 rfl _ _ _ _ 38 24 _ _ (0, 0) (0, 0) _ _ rfl (hl.drewN 1) rfl (hg.drewN 1) Try.underlying38 rfl (by kernel_rfl) Try.underlying24 rfl (by kernel_rfl)) rfl ⟨ret_val ?_, below_quiet hbw ⟨1, rfl⟩⟩
    rw [HE.out]
    simp [prE, orZ]
  obtain ⟨b1, a2⟩ := Decidable.not_not.1 hv
  have hd : (decide (1 ≤ H) && decide (H ≤ 1073741824)) = true := by simp [b1, a2]
  rw [hd]
  clear hd hv
  go_wp2_with fail
  refine (within_0 _ _ _).mono ?_
  rintro e wa ⟨rfl, rfl⟩
  cases h2 : inB 1073741824 A
  · have HE : Hid (lchE H A L S = 430) := Lib.hid (lchE_bad (fun h => by rw [inB_iff.2 h.2.1] at h2; cases h2))
    clear h2
    go_wp2_with fail
    have hl := ((((HG3.out.set_ 0 (.int .i64 (0))).set_ 1 (.int .i64 (0))).far (p := ⟨w.heap.size+1+1+1, 0, none⟩) (by simp) (.int .i64 (0))).far (p := ⟨w.heap.size+1+1+1, 1, none⟩) (by simp) (.int .i64 (0)))
    have hg := ((((HD3.out.far (p := ⟨w.heap.size+1+1, 0, none⟩) (by simp) (.int .i64 (0))).far (p := ⟨w.heap.size+1+1, 1, none⟩) (by simp) (.int .i64 (0))).set_ 0 (.int .i64 (0))).set_ 1 (.int .i64 (0)))
    have hbw := ((((HB3.out.setCell (p := ⟨w.heap.size+1+1, 0, none⟩) (by simp; omega) (.int .i64 (0))).setCell (p := ⟨w.heap.size+1+1, 1, none⟩) (by simp; omega) (.int .i64 (0))).setCell (p := ⟨w.heap.size+1+1+1, 0, none⟩) (by simp; omega) (.int .i64 (0))).setCell (p := ⟨w.heap.size+1+1+1, 1, none⟩) (by simp; omega) (.int .i64 (0)))
    first | refine bodyPost_ret (results_rows2 rfl _ _ _ _ 38 24 _ _ (0, 0) (0, 0) _ _ rfl hl rfl hg Try.underlying38 rfl (by kernel_rfl) Try.underlying24 rfl (by kernel_rfl)) rfl ⟨ret_val ?_, hbw⟩ | refine bodyPost_ret (results_rows2 rfl _ _ _ _ 38 24 _ _ (0, 0) (0, 0) _ _ rfl (hl.drewN 1) rfl (hg.drewN 1) Try.underlying38 rfl (by kernel_rfl) Try.underlying24 rfl (by kernel_rfl)) rfl ⟨ret_val ?_, below_quiet hbw ⟨1, rfl⟩⟩
    rw [HE.out]
    simp [prE, orZ]
  obtain ⟨a3, a4⟩ := inB_iff.1 h2
  clear h2
  go_wp2_with fail
  refine (Right_23 _ _ _).mono ?_
  rintro e w5 ⟨rfl, hb5⟩
  clear c0 c1 c2 c3 d0 d1 d2 d3 f0 f1 f2 f3
  have HB5 := Lib.hid (HB3.out.trans (hb5.mono (by omega)))
  have HF5 := Lib.hid (HF3.out.below hb5 (by omega))
  have HW5 := Lib.hid (HW3.out.below hb5 (by omega))
  have HG5 := Lib.hid (HG3.out.below hb5 (by omega))
  have HD5 := Lib.hid (HD3.out.below hb5 (by omega))
  clear hb5
  have hs5 := HD5.out.lt
  have c0 : w5.cell? ⟨w.heap.size, 0, none⟩ = some (.int .i64 H) := HF5.out.cell 0
  have c1 : w5.cell? ⟨w.heap.size, 1, none⟩ = some (.int .i64 A) := HF5.out.cell 1
  have c2 : w5.cell? ⟨w.heap.size+1, 0, none⟩ = some (.int .i64 L) := HW5.out.cell 0
  have c3 : w5.cell? ⟨w.heap.size+1, 1, none⟩ = some (.int .i64 S) := HW5.out.cell 1
  have d0 : w5.cell? ⟨w.heap.size+1+1, 0, none⟩ = some (.int .i64 0) := HG5.out.cell 0
  have d1 : w5.cell? ⟨w.heap.size+1+1, 1, none⟩ = some (.int .i64 0) := HG5.out.cell 1
  have d2 : w5.cell? ⟨w.heap.size+1+1+1, 0, none⟩ = some (.int .i64 0) := HD5.out.cell 0
  have d3 : w5.cell? ⟨w.heap.size+1+1+1, 1, none⟩ = some (.int .i64 0) := HD5.out.cell 1
  have f0 := HG5.out.frozen 0
  have f1 := HG5.out.frozen 1
  have f2 := HD5.out.frozen 0
  have f3 := HD5.out.frozen 1
  cases h3 : rt L S
  · have HE : Hid (lchE H A L S = 430) := Lib.hid (lchE_bad (fun h => by rw [h.2.2.1] at h3; cases h3))
    clear h3
    go_wp2_with fail
    have hl := ((((HG5.out.set_ 0 (.int .i64 (0))).set_ 1 (.int .i64 (0))).far (p := ⟨w.heap.size+1+1+1, 0, none⟩) (by simp) (.int .i64 (0))).far (p := ⟨w.heap.size+1+1+1, 1, none⟩) (by simp) (.int .i64 (0)))
    have hg := ((((HD5.out.far (p := ⟨w.heap.size+1+1, 0, none⟩) (by simp) (.int .i64 (0))).far (p := ⟨w.heap.size+1+1, 1, none⟩) (by simp) (.int .i64 (0))).set_ 0 (.int .i64 (0))).set_ 1 (.int .i64 (0)))
    have hbw := ((((HB5.out.setCell (p := ⟨w.heap.size+1+1, 0, none⟩) (by simp; omega) (.int .i64 (0))).setCell (p := ⟨w.heap.size+1+1, 1, none⟩) (by simp; omega) (.int .i64 (0))).setCell (p := ⟨w.heap.size+1+1+1, 0, none⟩) (by simp; omega) (.int .i64 (0))).setCell (p := ⟨w.heap.size+1+1+1, 1, none⟩) (by simp; omega) (.int .i64 (0)))
    first | refine bodyPost_ret (results_rows2 rfl _ _ _ _ 38 24 _ _ (0, 0) (0, 0) _ _ rfl hl rfl hg Try.underlying38 rfl (by kernel_rfl) Try.underlying24 rfl (by kernel_rfl)) rfl ⟨ret_val ?_, hbw⟩ | refine bodyPost_ret (results_rows2 rfl _ _ _ _ 38 24 _ _ (0, 0) (0, 0) _ _ rfl (hl.drewN 1) rfl (hg.drewN 1) Try.underlying38 rfl (by kernel_rfl) Try.underlying24 rfl (by kernel_rfl)) rfl ⟨ret_val ?_, below_quiet hbw ⟨1, rfl⟩⟩
    rw [HE.out]
    simp [prE, orZ]
  have H3 := Lib.hid h3
  obtain ⟨⟨a5, a6⟩, ⟨a7, a8⟩, _⟩ := rt_iff.1 h3
  clear h3
  by_cases b9 : 1073741824 < H + L
  · have HE : Hid (lchE H A L S = 430) := Lib.hid (lchE_bad (fun h => by omega))
    go_wp2_with fail
    have hl := ((((HG5.out.set_ 0 (.int .i64 (0))).set_ 1 (.int .i64 (0))).far (p := ⟨w.heap.size+1+1+1, 0, none⟩) (by simp) (.int .i64 (0))).far (p := ⟨w.heap.size+1+1+1, 1, none⟩) (by simp) (.int .i64 (0)))
    have hg := ((((HD5.out.far (p := ⟨w.heap.size+1+1, 0, none⟩) (by simp) (.int .i64 (0))).far (p := ⟨w.heap.size+1+1, 1, none⟩) (by simp) (.int .i64 (0))).set_ 0 (.int .i64 (0))).set_ 1 (.int .i64 (0)))
    have hbw := ((((HB5.out.setCell (p := ⟨w.heap.size+1+1, 0, none⟩) (by simp; omega) (.int .i64 (0))).setCell (p := ⟨w.heap.size+1+1, 1, none⟩) (by simp; omega) (.int .i64 (0))).setCell (p := ⟨w.heap.size+1+1+1, 0, none⟩) (by simp; omega) (.int .i64 (0))).setCell (p := ⟨w.heap.size+1+1+1, 1, none⟩) (by simp; omega) (.int .i64 (0)))
    first | refine bodyPost_ret (results_rows2 rfl _ _ _ _ 38 24 _ _ (0, 0) (0, 0) _ _ rfl hl rfl hg Try.underlying38 rfl (by kernel_rfl) Try.underlying24 rfl (by kernel_rfl)) rfl ⟨ret_val ?_, hbw⟩ | refine bodyPost_ret (results_rows2 rfl _ _ _ _ 38 24 _ _ (0, 0) (0, 0) _ _ rfl (hl.drewN 1) rfl (hg.drewN 1) Try.underlying38 rfl (by kernel_rfl) Try.underlying24 rfl (by kernel_rfl)) rfl ⟨ret_val ?_, below_quiet hbw ⟨1, rfl⟩⟩
    rw [HE.out]
    simp [prE, orZ]
  have a9 : H + L ≤ 1073741824 := by omega
  by_cases b10 : 1073741824 < A + S
  · have HE : Hid (lchE H A L S = 430) := Lib.hid (lchE_bad (fun h => by omega))
    go_wp2_with fail
    have hl := ((((HG5.out.set_ 0 (.int .i64 (0))).set_ 1 (.int .i64 (0))).far (p := ⟨w.heap.size+1+1+1, 0, none⟩) (by simp) (.int .i64 (0))).far (p := ⟨w.heap.size+1+1+1, 1, none⟩) (by simp) (.int .i64 (0)))
    have hg := ((((HD5.out.far (p := ⟨w.heap.size+1+1, 0, none⟩) (by simp) (.int .i64 (0))).far (p := ⟨w.heap.size+1+1, 1, none⟩) (by simp) (.int .i64 (0))).set_ 0 (.int .i64 (0))).set_ 1 (.int .i64 (0)))
    have hbw := ((((HB5.out.setCell (p := ⟨w.heap.size+1+1, 0, none⟩) (by simp; omega) (.int .i64 (0))).setCell (p := ⟨w.heap.size+1+1, 1, none⟩) (by simp; omega) (.int .i64 (0))).setCell (p := ⟨w.heap.size+1+1+1, 0, none⟩) (by simp; omega) (.int .i64 (0))).setCell (p := ⟨w.heap.size+1+1+1, 1, none⟩) (by simp; omega) (.int .i64 (0)))
    first | refine bodyPost_ret (results_rows2 rfl _ _ _ _ 38 24 _ _ (0, 0) (0, 0) _ _ rfl hl rfl hg Try.underlying38 rfl (by kernel_rfl) Try.underlying24 rfl (by kernel_rfl)) rfl ⟨ret_val ?_, hbw⟩ | refine bodyPost_ret (results_rows2 rfl _ _ _ _ 38 24 _ _ (0, 0) (0, 0) _ _ rfl (hl.drewN 1) rfl (hg.drewN 1) Try.underlying38 rfl (by kernel_rfl) Try.underlying24 rfl (by kernel_rfl)) rfl ⟨ret_val ?_, below_quiet hbw ⟨1, rfl⟩⟩
    rw [HE.out]
    simp [prE, orZ]
  have a10 : A + S ≤ 1073741824 := by omega
  have HE : Hid (lchE H A L S = 0) := Lib.hid (if_pos ⟨⟨b1, a2⟩, ⟨a3, a4⟩, H3.out, a9, a10⟩)
  have hp : 0 < H + L := by omega
  have hD0 := share_range (S := A + S) (k := L) hp (by omega) a5 (by omega)
  have hm0 : 0 ≤ (A + S) * L := Int.mul_nonneg (by omega) a5
  have hm1 : (A + S) * L ≤ 1073741824 * 1073741824 := Int.mul_le_mul a10 a6 a5 (by omega)
  obtain ⟨D, hD⟩ : ∃ D, D = (A + S) * L / (H + L) := ⟨_, rfl⟩
  have HDV : Hid (lchD H A L S = D) := Lib.hid (by rw [hD, lchD])
  have HAV : Hid (lchA H A L S = A + S - D) := Lib.hid (by rw [lchA, HDV.out])
  have HSH : Hid (∀ W, Calls Try.prog 31 #[.int .i64 (A + S), .int .i64 L, .int .i64 (H + L)] W fun e w' => e = .returned (.int .i64 D) ∧ W = w') := Lib.hid fun W => by rw [hD]; exact share_31 (A + S) L (H + L) W hm0 (by omega) hp (by omega)
  rw [← hD] at hD0
  obtain ⟨g0, g1⟩ := hD0
  clear hD hm0 hm1
  have hwr1 : IntKind.i64.wrap (H + L) = H + L := IntWalk.i64_in _ ⟨by omega, by omega⟩
  have hwr2 : IntKind.i64.wrap (A + S - D) = A + S - D := IntWalk.i64_in _ ⟨by omega, by omega⟩
  go_upto_region 4 with fail
  go_cut [8] (fun s8 wc => s8 = .pointer (some ⟨w5.heap.size, 0, none⟩) ∧ wc = (w5.alloc (.cells #[.int .i64 L, .int .i64 D] 24)).drew)
  case first =>
    go_region_held3 (fun w' => w'.cell? ⟨w.heap.size, 0, none⟩ = some (.int .i64 H) ∧ w'.cell? ⟨w.heap.size+1, 0, none⟩ = some (.int .i64 L)) (go_keep)
      (first | (go_at_call 31; refine (HSH.out _).mono ?_; rintro e w' ⟨rfl, rfl⟩))
    all_goals
      go_wp2_with fail
      go_meet
      case rel => exact ⟨rfl, rfl⟩
  case' rest => obtain ⟨rfl, rfl⟩ := hcut
  have hb7 : Below w5.heap.size w5 (w5.alloc (.cells #[.int .i64 L, .int .i64 D] 24)).drew := (below_alloc _ _).drew
  have HV7 : Hid (Blk (w5.alloc (.cells #[.int .i64 L, .int .i64 D] 24)).drew w5.heap.size 24 #[.int .i64 L, .int .i64 D]) := Lib.hid ((Blk.new _ _ _).drewN 1)
  clear c0 c1 c2 c3 d0 d1 d2 d3 f0 f1 f2 f3
  generalize (w5.alloc (.cells #[.int .i64 L, .int .i64 D] 24)).drew = w7 at HV7 hb7 ⊢
  have HB7 := Lib.hid (HB5.out.trans (hb7.mono (by omega)))
  have HF7 := Lib.hid (HF5.out.below hb7 (by omega))
  have HW7 := Lib.hid (HW5.out.below hb7 (by omega))
  have HG7 := Lib.hid (HG5.out.below hb7 (by omega))
  have HD7 := Lib.hid (HD5.out.below hb7 (by omega))
  clear hb7
  have hs7 := HD7.out.lt
  have c0 : w7.cell? ⟨w.heap.size, 0, none⟩ = some (.int .i64 H) := HF7.out.cell 0
  have c1 : w7.cell? ⟨w.heap.size, 1, none⟩ = some (.int .i64 A) := HF7.out.cell 1
  have c2 : w7.cell? ⟨w.heap.size+1, 0, none⟩ = some (.int .i64 L) := HW7.out.cell 0
  have c3 : w7.cell? ⟨w.heap.size+1, 1, none⟩ = some (.int .i64 S) := HW7.out.cell 1
  have d0 : w7.cell? ⟨w.heap.size+1+1, 0, none⟩ = some (.int .i64 0) := HG7.out.cell 0
  have d1 : w7.cell? ⟨w.heap.size+1+1, 1, none⟩ = some (.int .i64 0) := HG7.out.cell 1
  have d2 : w7.cell? ⟨w.heap.size+1+1+1, 0, none⟩ = some (.int .i64 0) := HD7.out.cell 0
  have d3 : w7.cell? ⟨w.heap.size+1+1+1, 1, none⟩ = some (.int .i64 0) := HD7.out.cell 1
  have f0 := HG7.out.frozen 0
  have f1 := HG7.out.frozen 1
  have f2 := HD7.out.frozen 0
  have f3 := HD7.out.frozen 1
  have hv7 := HV7.out.lt
  have e0 : w7.cell? ⟨w5.heap.size, 0, none⟩ = some (.int .i64 L) := HV7.out.cell 0
  have e1 : w7.cell? ⟨w5.heap.size, 1, none⟩ = some (.int .i64 D) := HV7.out.cell 1
  go_wp2_with fail
  go_region
  all_goals
    go_wp2_with fail
    have hl := ((((HG7.out.set_ 0 (.int .i64 (H))).set_ 1 (.int .i64 ((A+S-D)))).far (p := ⟨w.heap.size+1+1+1, 0, none⟩) (by simp) (.int .i64 (L))).far (p := ⟨w.heap.size+1+1+1, 1, none⟩) (by simp) (.int .i64 (D)))
    have hg := ((((HD7.out.far (p := ⟨w.heap.size+1+1, 0, none⟩) (by simp) (.int .i64 (H))).far (p := ⟨w.heap.size+1+1, 1, none⟩) (by simp) (.int .i64 ((A+S-D)))).set_ 0 (.int .i64 (L))).set_ 1 (.int .i64 (D)))
    have hbw := ((((HB7.out.setCell (p := ⟨w.heap.size+1+1, 0, none⟩) (by simp; omega) (.int .i64 (H))).setCell (p := ⟨w.heap.size+1+1, 1, none⟩) (by simp; omega) (.int .i64 ((A+S-D)))).setCell (p := ⟨w.heap.size+1+1+1, 0, none⟩) (by simp; omega) (.int .i64 (L))).setCell (p := ⟨w.heap.size+1+1+1, 1, none⟩) (by simp; omega) (.int .i64 (D)))
    first | refine bodyPost_ret (results_rows2 rfl _ _ _ _ 38 24 _ _ (0, 0) (0, 0) _ _ rfl hl rfl hg Try.underlying38 rfl (by kernel_rfl) Try.underlying24 rfl (by kernel_rfl)) rfl ⟨ret_val ?_, hbw⟩ | refine bodyPost_ret (results_rows2 rfl _ _ _ _ 38 24 _ _ (0, 0) (0, 0) _ _ rfl (hl.drewN 1) rfl (hg.drewN 1) Try.underlying38 rfl (by kernel_rfl) Try.underlying24 rfl (by kernel_rfl)) rfl ⟨ret_val ?_, below_quiet hbw ⟨1, rfl⟩⟩
    rw [HE.out, HAV.out, HDV.out]
    simp [prE, orZ]
end Go.Proofs.Ythmebjbaigiehaa
