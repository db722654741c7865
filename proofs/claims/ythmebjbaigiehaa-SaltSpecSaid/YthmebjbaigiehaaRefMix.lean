/- Contract of the reference's Mix. No condition. -/
import Derived.Test.YthmebjbaigiehaaMix
namespace Go.Proofs.Ythmebjbaigiehaa
open Go.RowKit

set_option maxRecDepth 100000 in
set_option maxHeartbeats 4000000 in
theorem ref_Mix_13 (A : Option Addr) (n c B : Nat) (X Y : Nat → Int) (w : World) (hm : n ≤ 9223372036854775807) (hB : B ≤ w.heap.size) (hr : RdP w B A n X Y) :
    Calls Try.prog 13 #[.slice A n c] w fun e w' => e = .returned (wtE (mixE n X Y) (sm X n) (sm Y n)) ∧ Below w.heap.size w w' := by
  have HR := Lib.hid hr
  clear hr
  by_cases hn : 64 < n
  · have hn' : (64 : Int) < n := by omega
    have HE : Hid (mixE n X Y = 2) := Lib.hid (by rw [mixE, if_pos hn])
    go_enter Try.func13, Try.ntmps13
    go_wp2_with fail
    refine bodyPost_ret (results_row2 rfl _ _ _ 24 _ (0, 0) _ rfl ((((Blk.new w 24 #[.int .i64 0, .int .i64 0])))) Try.underlying24 rfl (by kernel_rfl)) rfl ?_
    exact ⟨ret_val (by rw [HE.out]; simp [wtE, orZ]), below_alloc _ _⟩
  have hn' : (n : Int) ≤ 64 := by omega
  go_enter Try.func13, Try.ntmps13
  go_wp2_with fail
  obtain ⟨w1, hw1⟩ : ∃ zz, zz = w.alloc (.cells #[.int .i64 0, .int .i64 0] 24) := ⟨_, rfl⟩
  have hz1 : w1.heap.size = w.heap.size + 1 := by rw [hw1]; simp
  obtain ⟨w0, hw0⟩ : ∃ zz, zz = w1.alloc (.cells #[.int .i64 0, .int .i64 0] 24) := ⟨_, rfl⟩
  have HF0 : Hid (Blk w0 w.heap.size 24 #[.int .i64 0, .int .i64 0]) := Lib.hid (hw0 ▸ hw1 ▸ (Blk.new _ _ _).alloc _)
  have HM0 : Hid (Blk w0 (w.heap.size+1) 24 #[.int .i64 0, .int .i64 0]) := Lib.hid (by have := Blk.new w1 24 #[.int .i64 0, .int .i64 0]; rw [hz1] at this; rw [hw0]; exact this)
  have HB0 : Hid (Below w.heap.size w w0) := Lib.hid (by rw [hw0, hw1]; (repeat (first | exact Below.refl _ _ | exact below_alloc _ _ | refine Below.alloc ?_ (by simp; omega) _ | refine Below.alloc ?_ (by simp) _)))
  rw [← hw1, ← hw0]
  clear hw0 hw1 hz1
  have hz := HM0.out.lt
  go_loopw [5] (fun i wr => ∃ k : Nat, k ≤ n ∧ i = .int .i64 k ∧ Hid (rtN X Y k = true) ∧ Blk wr (w.heap.size+1) 24 #[.int .i64 (sm X k), .int .i64 (sm Y k)] ∧ Below (w.heap.size + 1) w0 wr) (fun i _ => n - (intOf i).toNat)
  case atStart => exact ⟨0, Nat.zero_le _, rfl, Lib.hid rfl, HM0.out, Below.refl _ _⟩
  case round =>
    obtain ⟨k, hk, rfl, HK, hM, hb⟩ := hrel
    have HM := Lib.hid hM
    have HBr := Lib.hid (HB0.out.trans (hb.mono (by omega)))
    have HB1 := Lib.hid hb
    have HFr := Lib.hid (HF0.out.below hb (by omega))
    have hsr := hM.lt
    have hX : ∀ j, j < k → 0 ≤ X j ∧ X j ≤ 1073741824 := fun j hj => (rt_iff.1 (rtN_at k HK.out j hj)).1
    have hY : ∀ j, j < k → 0 ≤ Y j ∧ Y j ≤ 1073741824 := fun j hj => (rt_iff.1 (rtN_at k HK.out j hj)).2.1
    have sx0 := sm_nonneg k (fun j hj => (hX j hj).1)
    have sy0 := sm_nonneg k (fun j hj => (hY j hj).1)
    have sx1 := sm_le (c := 1073741824) k (fun j hj => (hX j hj).2)
    have sy1 := sm_le (c := 1073741824) k (fun j hj => (hY j hj).2)
    clear hM hb hX hY
    by_cases hlt : k < n
    · have hlt' : (k : Int) < n := by omega
      obtain ⟨b, off, rfl, hbB, c1, c2⟩ := (HR.out.below (HBr.out.mono hB)).at_ hlt
      have hbb : b < wr.heap.size := World.block_lt_of_cell? _ _ c1
      go_wp2_with fail
      refine (Right_23 _ _ _).mono ?_
      rintro e w4 ⟨rfl, hb4⟩
      have HM4 := Lib.hid (HM.out.below hb4 hsr)
      have HF4 := Lib.hid (HFr.out.below hb4 (by omega))
      have HB4 := Lib.hid (HBr.out.trans (hb4.mono (by omega)))
      have HB41 := Lib.hid (HB1.out.trans (hb4.mono (by omega)))
      clear c1 c2 hb4 hbb
      have hs4 := HM4.out.lt
      cases h1 : rt (X k) (Y k)
      · have HE : Hid (mixE n X Y = 430) := Lib.hid (by rw [mixE, if_neg hn, if_neg]; intro h; have := rtN_bad h1 n hlt; rw [h.1] at this; cases this)
        have r0 : w4.cell? ⟨w.heap.size, 0, none⟩ = some (.int .i64 0) := HF4.out.cell 0
        have r1 : w4.cell? ⟨w.heap.size, 1, none⟩ = some (.int .i64 0) := HF4.out.cell 1
        have f0 := HF4.out.frozen 0
        have f1 := HF4.out.frozen 1
        clear h1
        go_wp2_with fail
        refine bodyPost_ret (results_row2 rfl _ _ _ 24 _ (0, 0) _ rfl ((HF4.out.set_ 0 (.int .i64 0)).set_ 1 (.int .i64 0)) Try.underlying24 rfl (by kernel_rfl)) rfl ?_
        exact ⟨ret_val (by rw [HE.out]; simp [wtE, orZ]), (HB4.out.setCell (p := ⟨w.heap.size, 0, none⟩) (by simp) _).setCell (p := ⟨w.heap.size, 1, none⟩) (by simp) _⟩
      have HK1 : Hid (rtN X Y (k + 1) = true) := Lib.hid (by rw [rtN, HK.out, h1]; rfl)
      obtain ⟨⟨a1, a2⟩, ⟨a3, a4⟩, _⟩ := rt_iff.1 h1
      have HSX : Hid (sm X (k + 1) = sm X k + X k) := Lib.hid rfl
      have HSY : Hid (sm Y (k + 1) = sm Y k + Y k) := Lib.hid rfl
      clear h1
      generalize sm X k = sx at *
      generalize sm Y k = sy at *
      obtain ⟨c1, c2⟩ := (HR.out.below (HB4.out.mono hB)).here hlt
      have hbb : b < w4.heap.size := World.block_lt_of_cell? _ _ c1
      have m0 : w4.cell? ⟨w.heap.size+1, 0, none⟩ = some (.int .i64 sx) := HM4.out.cell 0
      have m1 : w4.cell? ⟨w.heap.size+1, 1, none⟩ = some (.int .i64 sy) := HM4.out.cell 1
      have f0 := HM4.out.frozen 0
      have f1 := HM4.out.frozen 1
      have hw1 : IntKind.i64.wrap (sx + X k) = sx + X k := IntWalk.i64_in _ ⟨by omega, by omega⟩
      have hw2 : IntKind.i64.wrap (sy + Y k) = sy + Y k := IntWalk.i64_in _ ⟨by omega, by omega⟩
      go_upto_region 9 with fail
      go_region
      have HM5 : Hid (Blk (w4.setCell ⟨w.heap.size+1, 0, none⟩ (.int .i64 (sx + X k))).drew (w.heap.size+1) 24 #[.int .i64 (sx + X k), .int .i64 sy]) := Lib.hid ((HM4.out.set_ 0 _).drewN 1)
      have hb5 : Below (w.heap.size+1) w4 (w4.setCell ⟨w.heap.size+1, 0, none⟩ (.int .i64 (sx + X k))).drew := ((Below.refl _ _).setCell (by simp) _).drew
      clear m0 m1 f0 f1 c1 c2 hbb
      generalize (w4.setCell ⟨w.heap.size+1, 0, none⟩ (.int .i64 (sx + X k))).drew = w5 at HM5 hb5 ⊢
      have HB5 := Lib.hid (HB4.out.trans (hb5.mono (by omega)))
      have HB51 := Lib.hid (HB41.out.trans hb5)
      clear hb5
      obtain ⟨c1, c2⟩ := (HR.out.below (HB5.out.mono hB)).here hlt
      have hbb : b < w5.heap.size := World.block_lt_of_cell? _ _ c1
      have m1 : w5.cell? ⟨w.heap.size+1, 1, none⟩ = some (.int .i64 sy) := HM5.out.cell 1
      have f1 := HM5.out.frozen 1
      go_wp2_with fail
      go_region
      go_wp2_with fail
      go_roundw
      case rel => exact ⟨k + 1, by omega, by go_num, HK1, by rw [HSX.out, HSY.out]; exact (HM5.out.set_ 1 (.int .i64 (sy + Y k))).drewN 1, (HB51.out.setCell (by simp) _).drew⟩
      case measure => simp [intOf]; omega
    · obtain rfl : k = n := by omega
      have r0 : wr.cell? ⟨w.heap.size, 0, none⟩ = some (.int .i64 0) := HFr.out.cell 0
      have r1 : wr.cell? ⟨w.heap.size, 1, none⟩ = some (.int .i64 0) := HFr.out.cell 1
      have f0 := HFr.out.frozen 0
      have f1 := HFr.out.frozen 1
      have HEV : Hid (mixE k X Y = if sm X k ≤ 1073741824 ∧ sm Y k ≤ 1073741824 then 0 else 430) := Lib.hid (by
        rw [mixE, if_neg hn]
        by_cases h : sm X k ≤ 1073741824 ∧ sm Y k ≤ 1073741824
        · rw [if_pos h, if_pos ⟨HK.out, inB_iff.2 ⟨sx0, h.1⟩, inB_iff.2 ⟨sy0, h.2⟩⟩]
        · rw [if_neg h, if_neg]
          rintro ⟨_, h1, h2⟩
          exact h ⟨(inB_iff.1 h1).2, (inB_iff.1 h2).2⟩)
      have m0 : wr.cell? ⟨w.heap.size+1, 0, none⟩ = some (.int .i64 (sm X k)) := HM.out.cell 0
      have m1 : wr.cell? ⟨w.heap.size+1, 1, none⟩ = some (.int .i64 (sm Y k)) := HM.out.cell 1
      generalize hsx : sm X k = sx at HEV m0 sx0 sx1 ⊢
      generalize hsy : sm Y k = sy at HEV m1 sy0 sy1 ⊢
      have HSX := Lib.hid hsx
      have HSY := Lib.hid hsy
      clear hsx hsy
      by_cases b1 : 1073741824 < sx
      · have HE : Hid (mixE k X Y = 430) := Lib.hid (by rw [HEV.out, if_neg (by omega)])
        go_wp2_with fail
        refine bodyPost_ret (results_row2 rfl _ _ _ 24 _ (0, 0) _ rfl ((HFr.out.set_ 0 (.int .i64 0)).set_ 1 (.int .i64 0)) Try.underlying24 rfl (by kernel_rfl)) rfl ?_
        exact ⟨ret_val (by rw [HE.out]; simp [wtE, orZ]), (HBr.out.setCell (p := ⟨w.heap.size, 0, none⟩) (by simp) _).setCell (p := ⟨w.heap.size, 1, none⟩) (by simp) _⟩
      by_cases b2 : 1073741824 < sy
      · have HE : Hid (mixE k X Y = 430) := Lib.hid (by rw [HEV.out, if_neg (by omega)])
        go_wp2_with fail
        refine bodyPost_ret (results_row2 rfl _ _ _ 24 _ (0, 0) _ rfl ((HFr.out.set_ 0 (.int .i64 0)).set_ 1 (.int .i64 0)) Try.underlying24 rfl (by kernel_rfl)) rfl ?_
        exact ⟨ret_val (by rw [HE.out]; simp [wtE, orZ]), (HBr.out.setCell (p := ⟨w.heap.size, 0, none⟩) (by simp) _).setCell (p := ⟨w.heap.size, 1, none⟩) (by simp) _⟩
      have HE : Hid (mixE k X Y = 0) := Lib.hid (by rw [HEV.out, if_pos (by omega)])
      have b1' : sx ≤ 1073741824 := by omega
      have b2' : sy ≤ 1073741824 := by omega
      go_wp2_with fail
      refine bodyPost_ret (results_row2 rfl _ _ _ 24 _ (0, 0) _ rfl ((HFr.out.set_ 0 (.int .i64 sx)).set_ 1 (.int .i64 sy)) Try.underlying24 rfl (by kernel_rfl)) rfl ?_
      exact ⟨ret_val (by rw [HE.out, HSX.out, HSY.out]; simp [wtE, orZ]), (HBr.out.setCell (p := ⟨w.heap.size, 0, none⟩) (by simp) _).setCell (p := ⟨w.heap.size, 1, none⟩) (by simp) _⟩
end Go.Proofs.Ythmebjbaigiehaa
