/- Contract of Lose. No condition. -/
import Derived.Test.YthmebjbaigiehaaVessel
import Derived.Deep.RegionWith
namespace Go.Proofs.Ythmebjbaigiehaa
open Go.RowKit

theorem results_rows2 {P : Program} {fn : Func} {p q u : Tmp} {ty ty2 : TypeId} (h : fn.results = #[.cell p ty, .cell q ty2, .tmp u]) (tmps : Array Value) (w : World) (g g2 : Nat) (t t2 : TypeId) (cs cs2 : Array Value) (fr fr2 : Nat × Nat) (d d2 : TypeDesc)
    (hp : tmps.getD p undef = .pointer (some ⟨g, 0, none⟩)) (hg : w.heap[g]? = some (.cells cs t fr)) (hq : tmps.getD q undef = .pointer (some ⟨g2, 0, none⟩)) (hg2 : w.heap[g2]? = some (.cells cs2 t2 fr2))
    (hu : P.underlying ty = some d) (hd : (match d with | .struct _ | .array _ _ => true | _ => false) = true) (hi : (P.info? ty).map (·.size) = some cs.size)
    (hu2 : P.underlying ty2 = some d2) (hd2 : (match d2 with | .struct _ | .array _ _ => true | _ => false) = true) (hi2 : (P.info? ty2).map (·.size) = some cs2.size) :
    (results fn tmps).run P w = .ok (.tuple #[.agg cs, .agg cs2, tmps.getD u undef]) w := by
  have hp' : tmps[p]?.getD undef = .pointer (some ⟨g, 0, none⟩) := by simpa using hp
  have hq' : tmps[q]?.getD undef = .pointer (some ⟨g2, 0, none⟩) := by simpa using hq
  simp [results, h, hp', hq', asAddr, run_loadVar_row w g t ty cs fr d hg hu hd hi, run_loadVar_row w g2 t2 ty2 cs2 fr2 d2 hg2 hu2 hd2 hi2]

theorem share_range {S k L : Int} (hL : 0 < L) (hS : 0 ≤ S) (hk : 0 ≤ k) (hkL : k ≤ L) : 0 ≤ S * k / L ∧ S * k / L ≤ S := by
  refine ⟨Int.ediv_nonneg (Int.mul_nonneg hS hk) (by omega), ?_⟩
  have h := Int.ediv_le_ediv hL (Int.mul_le_mul_of_nonneg_left hkL hS)
  rwa [Int.mul_ediv_cancel _ (by omega)] at h
theorem tkA_share {L S n : Int} (hS : 0 ≤ S) (hn : 0 ≤ n) (hnL : n ≤ L) : 0 ≤ tkA L S 0 0 n ∧ tkA L S 0 0 n ≤ S := by
  unfold tkA
  split
  · rw [Int.zero_add]; exact share_range (by omega) hS hn hnL
  · omega
/-- two pairs and an error -/
def prE (E a b c d : Int) : Value := .tuple #[.agg #[.int .i64 (orZ E a), .int .i64 (orZ E b)], .agg #[.int .i64 (orZ E c), .int .i64 (orZ E d)], .int .i64 E]

set_option maxRecDepth 100000 in
set_option maxHeartbeats 4000000 in
theorem Lose_14 (L S ev se : Int) (w : World) :
    Calls Try.prog 14 #[.agg #[.int .i64 L, .int .i64 S], .int .i64 ev, .int .i64 se] w fun e w' => e = .returned (prE (losE L S ev se) (L - ev - se) (S - losG L S ev se) se (losG L S ev se)) ∧ Below w.heap.size w w' := by
  go_enter Try.func14, Try.ntmps14
  go_wp2_with fail
  obtain ⟨w1, hw1⟩ : ∃ zz, zz = w.alloc (.cells #[.int .i64 L, .int .i64 S] 24) := ⟨_, rfl⟩
  have hz1 : w1.heap.size = w.heap.size + 1 := by rw [hw1]; simp
  obtain ⟨w3, hw3⟩ : ∃ zz, zz = (w1.alloc (.cells #[.int .i64 0, .int .i64 0] 24)).alloc (.cells #[.int .i64 0, .int .i64 0] 24) := ⟨_, rfl⟩
  have HW3 : Hid (Blk w3 w.heap.size 24 #[.int .i64 L, .int .i64 S]) := Lib.hid (hw3 ▸ hw1 ▸ ((Blk.new _ _ _).alloc _).alloc _)
  have HL3 : Hid (Blk w3 (w.heap.size+1) 24 #[.int .i64 0, .int .i64 0]) := Lib.hid (by have := (Blk.new w1 24 #[.int .i64 0, .int .i64 0]).alloc (.cells #[.int .i64 0, .int .i64 0] 24); rw [hz1] at this; rw [hw3]; exact this)
  have HG3 : Hid (Blk w3 (w.heap.size+1+1) 24 #[.int .i64 0, .int .i64 0]) := Lib.hid (by have := Blk.new (w1.alloc (.cells #[.int .i64 0, .int .i64 0] 24)) 24 #[.int .i64 0, .int .i64 0]; rw [World.size_alloc, hz1] at this; rw [hw3]; exact this)
  have HB3 : Hid (Below w.heap.size w w3) := Lib.hid (by rw [hw3, hw1]; (repeat (first | exact Below.refl _ _ | exact below_alloc _ _ | refine Below.alloc ?_ (by simp; omega) _ | refine Below.alloc ?_ (by simp) _)))
  rw [← hw1, ← hw3]
  clear hw1 hz1 hw3
  have hs3 := HG3.out.lt
  refine (right_25 _ _ _).mono ?_
  rintro e w4 ⟨rfl, hb4⟩
  have HB4 := Lib.hid (HB3.out.trans (hb4.mono (by omega)))
  have HW4 := Lib.hid (HW3.out.below hb4 (by omega))
  have HL4 := Lib.hid (HL3.out.below hb4 (by omega))
  have HG4 := Lib.hid (HG3.out.below hb4 (by omega))
  clear hb4 HB3 HW3 HL3 HG3
  have hs4 := HG4.out.lt
  have c0 : w4.cell? ⟨w.heap.size, 0, none⟩ = some (.int .i64 L) := HW4.out.cell 0
  have c1 : w4.cell? ⟨w.heap.size, 1, none⟩ = some (.int .i64 S) := HW4.out.cell 1
  have d0 : w4.cell? ⟨w.heap.size+1, 0, none⟩ = some (.int .i64 0) := HL4.out.cell 0
  have d1 : w4.cell? ⟨w.heap.size+1, 1, none⟩ = some (.int .i64 0) := HL4.out.cell 1
  have d2 : w4.cell? ⟨w.heap.size+1+1, 0, none⟩ = some (.int .i64 0) := HG4.out.cell 0
  have d3 : w4.cell? ⟨w.heap.size+1+1, 1, none⟩ = some (.int .i64 0) := HG4.out.cell 1
  have f0 := HL4.out.frozen 0
  have f1 := HL4.out.frozen 1
  have f2 := HG4.out.frozen 0
  have f3 := HG4.out.frozen 1
  cases h1 : rt L S
  · have HE : Hid (losE L S ev se = 430) := Lib.hid (by rw [losE, if_pos h1])
    clear h1
    go_wp2_with fail
    go_region
    go_wp2_with fail
    have hl := ((((HL4.out.set_ 0 (.int .i64 (0))).set_ 1 (.int .i64 (0))).far (p := ⟨w.heap.size+1+1, 0, none⟩) (by simp) (.int .i64 (0))).far (p := ⟨w.heap.size+1+1, 1, none⟩) (by simp) (.int .i64 (0))).drewN 1
    have hg := ((((HG4.out.far (p := ⟨w.heap.size+1, 0, none⟩) (by simp) (.int .i64 (0))).far (p := ⟨w.heap.size+1, 1, none⟩) (by simp) (.int .i64 (0))).set_ 0 (.int .i64 (0))).set_ 1 (.int .i64 (0))).drewN 1
    refine bodyPost_ret (results_rows2 rfl _ _ _ _ 24 24 _ _ (0, 0) (0, 0) _ _ rfl hl rfl hg Try.underlying24 rfl (by kernel_rfl) Try.underlying24 rfl (by kernel_rfl)) rfl ?_
    refine ⟨ret_val ?_, below_quiet ((((HB4.out.setCell (p := ⟨w.heap.size+1, 0, none⟩) (by simp) _).setCell (p := ⟨w.heap.size+1, 1, none⟩) (by simp) _).setCell (p := ⟨w.heap.size+1+1, 0, none⟩) (by simp; omega) _).setCell (p := ⟨w.heap.size+1+1, 1, none⟩) (by simp; omega) _) ⟨1, rfl⟩⟩
    rw [HE.out]
    simp [prE, orZ]
  have H1 := Lib.hid h1
  obtain ⟨⟨a1, a2⟩, ⟨a3, a4⟩, a5⟩ := rt_iff.1 h1
  clear h1
  have HA5 := Lib.hid a5
  clear a5
  by_cases hbad : ev < 0 ∨ L < ev ∨ se < 0 ∨ L - ev < se
  · have HE : Hid (losE L S ev se = 1) := Lib.hid (by rw [losE, if_neg (by rw [H1.out]; simp), if_neg (by omega)])
    by_cases b1 : ev < 0
    · go_wp2_with fail
      go_region
      go_wp2_with fail
      have hl := ((((HL4.out.set_ 0 (.int .i64 (0))).set_ 1 (.int .i64 (0))).far (p := ⟨w.heap.size+1+1, 0, none⟩) (by simp) (.int .i64 (0))).far (p := ⟨w.heap.size+1+1, 1, none⟩) (by simp) (.int .i64 (0))).drewN 1
      have hg := ((((HG4.out.far (p := ⟨w.heap.size+1, 0, none⟩) (by simp) (.int .i64 (0))).far (p := ⟨w.heap.size+1, 1, none⟩) (by simp) (.int .i64 (0))).set_ 0 (.int .i64 (0))).set_ 1 (.int .i64 (0))).drewN 1
      refine bodyPost_ret (results_rows2 rfl _ _ _ _ 24 24 _ _ (0, 0) (0, 0) _ _ rfl hl rfl hg Try.underlying24 rfl (by kernel_rfl) Try.underlying24 rfl (by kernel_rfl)) rfl ?_
      refine ⟨ret_val ?_, below_quiet ((((HB4.out.setCell (p := ⟨w.heap.size+1, 0, none⟩) (by simp) _).setCell (p := ⟨w.heap.size+1, 1, none⟩) (by simp) _).setCell (p := ⟨w.heap.size+1+1, 0, none⟩) (by simp; omega) _).setCell (p := ⟨w.heap.size+1+1, 1, none⟩) (by simp; omega) _) ⟨1, rfl⟩⟩
      rw [HE.out]
      simp [prE, orZ]
    have b1' : 0 ≤ ev := by omega
    by_cases b2 : L < ev
    · go_wp2_with fail
      go_region
      go_wp2_with fail
      have hl := ((((HL4.out.set_ 0 (.int .i64 (0))).set_ 1 (.int .i64 (0))).far (p := ⟨w.heap.size+1+1, 0, none⟩) (by simp) (.int .i64 (0))).far (p := ⟨w.heap.size+1+1, 1, none⟩) (by simp) (.int .i64 (0))).drewN 1
      have hg := ((((HG4.out.far (p := ⟨w.heap.size+1, 0, none⟩) (by simp) (.int .i64 (0))).far (p := ⟨w.heap.size+1, 1, none⟩) (by simp) (.int .i64 (0))).set_ 0 (.int .i64 (0))).set_ 1 (.int .i64 (0))).drewN 1
      refine bodyPost_ret (results_rows2 rfl _ _ _ _ 24 24 _ _ (0, 0) (0, 0) _ _ rfl hl rfl hg Try.underlying24 rfl (by kernel_rfl) Try.underlying24 rfl (by kernel_rfl)) rfl ?_
      refine ⟨ret_val ?_, below_quiet ((((HB4.out.setCell (p := ⟨w.heap.size+1, 0, none⟩) (by simp) _).setCell (p := ⟨w.heap.size+1, 1, none⟩) (by simp) _).setCell (p := ⟨w.heap.size+1+1, 0, none⟩) (by simp; omega) _).setCell (p := ⟨w.heap.size+1+1, 1, none⟩) (by simp; omega) _) ⟨1, rfl⟩⟩
      rw [HE.out]
      simp [prE, orZ]
    have b2' : ev ≤ L := by omega
    by_cases b3 : se < 0
    · go_wp2_with fail
      go_region
      go_wp2_with fail
      have hl := ((((HL4.out.set_ 0 (.int .i64 (0))).set_ 1 (.int .i64 (0))).far (p := ⟨w.heap.size+1+1, 0, none⟩) (by simp) (.int .i64 (0))).far (p := ⟨w.heap.size+1+1, 1, none⟩) (by simp) (.int .i64 (0))).drewN 1
      have hg := ((((HG4.out.far (p := ⟨w.heap.size+1, 0, none⟩) (by simp) (.int .i64 (0))).far (p := ⟨w.heap.size+1, 1, none⟩) (by simp) (.int .i64 (0))).set_ 0 (.int .i64 (0))).set_ 1 (.int .i64 (0))).drewN 1
      refine bodyPost_ret (results_rows2 rfl _ _ _ _ 24 24 _ _ (0, 0) (0, 0) _ _ rfl hl rfl hg Try.underlying24 rfl (by kernel_rfl) Try.underlying24 rfl (by kernel_rfl)) rfl ?_
      refine ⟨ret_val ?_, below_quiet ((((HB4.out.setCell (p := ⟨w.heap.size+1, 0, none⟩) (by simp) _).setCell (p := ⟨w.heap.size+1, 1, none⟩) (by simp) _).setCell (p := ⟨w.heap.size+1+1, 0, none⟩) (by simp; omega) _).setCell (p := ⟨w.heap.size+1+1, 1, none⟩) (by simp; omega) _) ⟨1, rfl⟩⟩
      rw [HE.out]
      simp [prE, orZ]
    have b3' : 0 ≤ se := by omega
    have b4 : L - ev < se := by omega
    go_wp2_with fail
    go_region
    go_wp2_with fail
    have hl := ((((HL4.out.set_ 0 (.int .i64 (0))).set_ 1 (.int .i64 (0))).far (p := ⟨w.heap.size+1+1, 0, none⟩) (by simp) (.int .i64 (0))).far (p := ⟨w.heap.size+1+1, 1, none⟩) (by simp) (.int .i64 (0))).drewN 1
    have hg := ((((HG4.out.far (p := ⟨w.heap.size+1, 0, none⟩) (by simp) (.int .i64 (0))).far (p := ⟨w.heap.size+1, 1, none⟩) (by simp) (.int .i64 (0))).set_ 0 (.int .i64 (0))).set_ 1 (.int .i64 (0))).drewN 1
    refine bodyPost_ret (results_rows2 rfl _ _ _ _ 24 24 _ _ (0, 0) (0, 0) _ _ rfl hl rfl hg Try.underlying24 rfl (by kernel_rfl) Try.underlying24 rfl (by kernel_rfl)) rfl ?_
    refine ⟨ret_val ?_, below_quiet ((((HB4.out.setCell (p := ⟨w.heap.size+1, 0, none⟩) (by simp) _).setCell (p := ⟨w.heap.size+1, 1, none⟩) (by simp) _).setCell (p := ⟨w.heap.size+1+1, 0, none⟩) (by simp; omega) _).setCell (p := ⟨w.heap.size+1+1, 1, none⟩) (by simp; omega) _) ⟨1, rfl⟩⟩
    rw [HE.out]
    simp [prE, orZ]
  have b1 : 0 ≤ ev := by omega
  have b2 : ev ≤ L := by omega
  have b3 : 0 ≤ se := by omega
  have b4 : se ≤ L - ev := by omega
  have fw := HW4.out.frozen 0
  clear hbad
  go_upto_region 6 with fail
  have hb5 : Below w.heap.size w (w4.setCell ⟨w.heap.size, 0, none⟩ (.int .i64 (L - ev))) := HB4.out.setCell (by simp) _
  have HW5 : Hid (Blk (w4.setCell ⟨w.heap.size, 0, none⟩ (.int .i64 (L - ev))) w.heap.size 24 #[.int .i64 (L - ev), .int .i64 S]) := Lib.hid (HW4.out.set_ 0 _)
  have HL5 := Lib.hid (HL4.out.far (p := ⟨w.heap.size, 0, none⟩) (by simp) (.int .i64 (L - ev)))
  have HG5 := Lib.hid (HG4.out.far (p := ⟨w.heap.size, 0, none⟩) (by simp; omega) (.int .i64 (L - ev)))
  have HB5 := Lib.hid hb5
  clear c0 c1 d0 d1 d2 d3 f0 f1 f2 f3 fw hb5
  generalize w4.setCell ⟨w.heap.size, 0, none⟩ (.int .i64 (L - ev)) = w5 at HW5 HL5 HG5 HB5 ⊢
  have hs5 := HG5.out.lt
  have c0 : w5.cell? ⟨w.heap.size, 0, none⟩ = some (.int .i64 (L - ev)) := HW5.out.cell 0
  have c1 : w5.cell? ⟨w.heap.size, 1, none⟩ = some (.int .i64 S) := HW5.out.cell 1
  go_wp2_with fail
  refine (right_25 _ _ _).mono ?_
  rintro e w6 ⟨rfl, hb6⟩
  have HB6 := Lib.hid (HB5.out.trans (hb6.mono (by omega)))
  have HW6 := Lib.hid (HW5.out.below hb6 (by omega))
  have HL6 := Lib.hid (HL5.out.below hb6 (by omega))
  have HG6 := Lib.hid (HG5.out.below hb6 (by omega))
  clear hb6 c0 c1
  have hs6 := HG6.out.lt
  have c0 : w6.cell? ⟨w.heap.size, 0, none⟩ = some (.int .i64 (L-ev)) := HW6.out.cell 0
  have c1 : w6.cell? ⟨w.heap.size, 1, none⟩ = some (.int .i64 S) := HW6.out.cell 1
  have d0 : w6.cell? ⟨w.heap.size+1, 0, none⟩ = some (.int .i64 0) := HL6.out.cell 0
  have d1 : w6.cell? ⟨w.heap.size+1, 1, none⟩ = some (.int .i64 0) := HL6.out.cell 1
  have d2 : w6.cell? ⟨w.heap.size+1+1, 0, none⟩ = some (.int .i64 0) := HG6.out.cell 0
  have d3 : w6.cell? ⟨w.heap.size+1+1, 1, none⟩ = some (.int .i64 0) := HG6.out.cell 1
  have f0 := HL6.out.frozen 0
  have f1 := HL6.out.frozen 1
  have f2 := HG6.out.frozen 0
  have f3 := HG6.out.frozen 1
  cases h1 : rt (L - ev) S
  · have h2 : ¬ (0 < L - ev ∨ S = 0) := fun h => by
      have := rt_iff.2 ⟨⟨by omega, by omega⟩, ⟨a3, a4⟩, h⟩
      rw [h1] at this; cases this
    have HE : Hid (losE L S ev se = 430) := Lib.hid (by rw [losE, if_neg (by rw [H1.out]; simp), if_pos ⟨b1, b2, b3, b4⟩, if_neg h2])
    clear h1 h2
    go_wp2_with fail
    go_region
    go_wp2_with fail
    have hl := ((((HL6.out.set_ 0 (.int .i64 (0))).set_ 1 (.int .i64 (0))).far (p := ⟨w.heap.size+1+1, 0, none⟩) (by simp) (.int .i64 (0))).far (p := ⟨w.heap.size+1+1, 1, none⟩) (by simp) (.int .i64 (0))).drewN 1
    have hg := ((((HG6.out.far (p := ⟨w.heap.size+1, 0, none⟩) (by simp) (.int .i64 (0))).far (p := ⟨w.heap.size+1, 1, none⟩) (by simp) (.int .i64 (0))).set_ 0 (.int .i64 (0))).set_ 1 (.int .i64 (0))).drewN 1
    refine bodyPost_ret (results_rows2 rfl _ _ _ _ 24 24 _ _ (0, 0) (0, 0) _ _ rfl hl rfl hg Try.underlying24 rfl (by kernel_rfl) Try.underlying24 rfl (by kernel_rfl)) rfl ?_
    refine ⟨ret_val ?_, below_quiet ((((HB6.out.setCell (p := ⟨w.heap.size+1, 0, none⟩) (by simp) _).setCell (p := ⟨w.heap.size+1, 1, none⟩) (by simp) _).setCell (p := ⟨w.heap.size+1+1, 0, none⟩) (by simp; omega) _).setCell (p := ⟨w.heap.size+1+1, 1, none⟩) (by simp; omega) _) ⟨1, rfl⟩⟩
    rw [HE.out]
    simp [prE, orZ]
  obtain ⟨_, _, h2⟩ := rt_iff.1 h1
  have HE : Hid (losE L S ev se = 0) := Lib.hid (by rw [losE, if_neg (by rw [H1.out]; simp), if_pos ⟨b1, b2, b3, b4⟩, if_pos h2])
  clear h1 h2
  have hgo : losG L S ev se = tkA (L - ev) S 0 0 se := by simp [losG, tkA]
  have HGO := Lib.hid hgo
  clear hgo
  go_upto_region 9 with fail
  have hG0 := tkA_share (S := S) (n := se) a3 b3 b4
  obtain ⟨G, hG⟩ : ∃ G, G = tkA (L - ev) S 0 0 se := ⟨_, rfl⟩
  rw [← hG] at hG0 HGO
  obtain ⟨g0, g1⟩ := hG0
  obtain ⟨w7, hw7⟩ : ∃ zz, zz = w6.alloc (.cells #[.int .i64 (L - ev), .int .i64 S, .int .i64 0, .int .i64 0] 56) := ⟨_, rfl⟩
  have HV7 : Hid (Blk w7 w6.heap.size 56 #[.int .i64 (L - ev), .int .i64 S, .int .i64 0, .int .i64 0]) := Lib.hid (hw7 ▸ Blk.new _ _ _)
  have HL7 := Lib.hid (show Blk w7 (w.heap.size+1) 24 #[.int .i64 0, .int .i64 0] from hw7 ▸ HL6.out.alloc _)
  have HG7 := Lib.hid (show Blk w7 (w.heap.size+1+1) 24 #[.int .i64 0, .int .i64 0] from hw7 ▸ HG6.out.alloc _)
  have HB7 := Lib.hid (show Below w.heap.size w w7 from hw7 ▸ HB6.out.alloc (by omega) _)
  rw [← hw7]
  clear hw7 c0 c1 d0 d1 d2 d3 f0 f1 f2 f3
  have hs7 := HV7.out.lt
  have HTK : Hid (Calls Try.prog 28 #[.pointer (some ⟨w6.heap.size, 0, none⟩), .int .i64 se] w7 fun e w' => e = .returned (.agg #[.int .i64 se, .int .i64 G]) ∧ Blk w' w6.heap.size 56 #[.int .i64 (L - ev), .int .i64 S, .int .i64 se, .int .i64 G] ∧ w7.grownBy w' (some w6.heap.size)) :=
    Lib.hid ((take_28 (L - ev) S 0 0 se w6.heap.size w7 HV7.out ⟨by omega, by omega⟩ ⟨a3, a4⟩ ⟨b3, by omega⟩ ⟨by omega, by omega⟩ ⟨by omega, by omega⟩).mono fun e w' h => by
      rw [← hG, Int.sub_zero, Int.zero_add] at h
      exact h)
  clear hG
  go_wp2_with fail
  refine HTK.out.mono ?_
  rintro e w8 ⟨rfl, hv8, hg8⟩
  have HV8 := Lib.hid hv8
  have HL8 := Lib.hid (blk_of_grown HL7.out hg8 (fun e => by injection e with e; omega))
  have HG8 := Lib.hid (blk_of_grown HG7.out hg8 (fun e => by injection e with e; omega))
  have HB8 := Lib.hid (HB7.out.trans (grown_below hg8 (by omega) (by omega)))
  clear hv8 hg8 HTK HV7 HL7 HG7 HB7
  have hs8 := HV8.out.lt
  have d2 : w8.cell? ⟨w.heap.size+1+1, 0, none⟩ = some (.int .i64 0) := HG8.out.cell 0
  have d3 : w8.cell? ⟨w.heap.size+1+1, 1, none⟩ = some (.int .i64 0) := HG8.out.cell 1
  have f2 := HG8.out.frozen 0
  have f3 := HG8.out.frozen 1
  go_upto_region 10 with fail
  have HV9 := Lib.hid ((HV8.out.far (p := ⟨w.heap.size+1+1, 0, none⟩) (by simp; omega) (.int .i64 se)).far (p := ⟨w.heap.size+1+1, 1, none⟩) (by simp; omega) (.int .i64 G))
  have HL9 := Lib.hid ((HL8.out.far (p := ⟨w.heap.size+1+1, 0, none⟩) (by simp) (.int .i64 se)).far (p := ⟨w.heap.size+1+1, 1, none⟩) (by simp) (.int .i64 G))
  have HG9 : Hid (Blk ((w8.setCell ⟨w.heap.size+1+1, 0, none⟩ (.int .i64 se)).setCell ⟨w.heap.size+1+1, 1, none⟩ (.int .i64 G)) (w.heap.size+1+1) 24 #[.int .i64 se, .int .i64 G]) := Lib.hid ((HG8.out.set_ 0 (.int .i64 se)).set_ 1 (.int .i64 G))
  have HB9 := Lib.hid ((HB8.out.setCell (p := ⟨w.heap.size+1+1, 0, none⟩) (by simp; omega) (.int .i64 se)).setCell (p := ⟨w.heap.size+1+1, 1, none⟩) (by simp; omega) (.int .i64 G))
  clear d2 d3 f2 f3 HV8 HL8 HG8 HB8
  generalize (w8.setCell ⟨w.heap.size+1+1, 0, none⟩ (.int .i64 se)).setCell ⟨w.heap.size+1+1, 1, none⟩ (.int .i64 G) = w9 at HV9 HL9 HG9 HB9 ⊢
  have hs9 := HV9.out.lt
  have HRS : Hid (Calls Try.prog 29 #[.pointer (some ⟨w6.heap.size, 0, none⟩)] w9.drew fun e w' => e = .returned (.agg #[.int .i64 (L - ev - se), .int .i64 (S - G)]) ∧ Below w9.heap.size w9 w' ∧
      w'.cell? ⟨w.heap.size+1, 0, none⟩ = some (.int .i64 0) ∧ w'.cell? ⟨w.heap.size+1, 1, none⟩ = some (.int .i64 0) ∧ w'.cell? ⟨w.heap.size+1+1, 0, none⟩ = some (.int .i64 se) ∧ w'.cell? ⟨w.heap.size+1+1, 1, none⟩ = some (.int .i64 G) ∧
      w'.frozen? ⟨w.heap.size+1, 0, none⟩ = false ∧ w'.frozen? ⟨w.heap.size+1, 1, none⟩ = false ∧ w'.frozen? ⟨w.heap.size+1+1, 0, none⟩ = false ∧ w'.frozen? ⟨w.heap.size+1+1, 1, none⟩ = false) :=
    Lib.hid ((rest_29 (L - ev) S se G w6.heap.size w9.drew (HV9.out.drewN 1) ⟨by omega, by omega⟩ ⟨by omega, by omega⟩ ⟨by omega, by omega⟩ ⟨by omega, by omega⟩).mono fun e w' h => by
      have hb : Below w9.heap.size w9 w' := (Below.refl w9.heap.size w9).drew.trans h.2
      have x := HL9.out.below hb (by omega)
      have y := HG9.out.below hb (by omega)
      exact ⟨h.1, hb, x.cell 0, x.cell 1, y.cell 0, y.cell 1, x.frozen 0, x.frozen 1, y.frozen 0, y.frozen 1⟩)
  have d2 : w9.cell? ⟨w.heap.size+1+1, 0, none⟩ = some (.int .i64 se) := HG9.out.cell 0
  have d3 : w9.cell? ⟨w.heap.size+1+1, 1, none⟩ = some (.int .i64 G) := HG9.out.cell 1
  go_region_with (first | (go_at_call 29; refine HRS.out.mono ?_; rintro e w' ⟨rfl, hbl, k0, k1, k2, k3, k4, k5, k6, k7⟩))
  all_goals
    go_wp2_with fail
    have HLn := Lib.hid (HL9.out.below hbl (by omega))
    have HGn := Lib.hid (HG9.out.below hbl (by omega))
    have HBn := Lib.hid (HB9.out.trans (hbl.mono (by omega)))
    have hl := ((((HLn.out.set_ 0 (.int .i64 ((L-ev-se)))).set_ 1 (.int .i64 ((S-G)))).far (p := ⟨w.heap.size+1+1, 0, none⟩) (by simp) (.int .i64 (se))).far (p := ⟨w.heap.size+1+1, 1, none⟩) (by simp) (.int .i64 (G)))
    have hg := ((((HGn.out.far (p := ⟨w.heap.size+1, 0, none⟩) (by simp) (.int .i64 ((L-ev-se)))).far (p := ⟨w.heap.size+1, 1, none⟩) (by simp) (.int .i64 ((S-G)))).set_ 0 (.int .i64 (se))).set_ 1 (.int .i64 (G)))
    refine bodyPost_ret (results_rows2 rfl _ _ _ _ 24 24 _ _ (0, 0) (0, 0) _ _ rfl hl rfl hg Try.underlying24 rfl (by kernel_rfl) Try.underlying24 rfl (by kernel_rfl)) rfl ?_
    refine ⟨ret_val ?_, ((((HBn.out.setCell (p := ⟨w.heap.size+1, 0, none⟩) (by simp) _).setCell (p := ⟨w.heap.size+1, 1, none⟩) (by simp) _).setCell (p := ⟨w.heap.size+1+1, 0, none⟩) (by simp; omega) _).setCell (p := ⟨w.heap.size+1+1, 1, none⟩) (by simp; omega) _)⟩
    rw [HE.out, HGO.out]
    simp [prE, orZ, Act.put]
end Go.Proofs.Ythmebjbaigiehaa
