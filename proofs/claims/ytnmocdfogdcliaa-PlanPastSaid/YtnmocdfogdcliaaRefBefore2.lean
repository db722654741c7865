/- Contract of the reference's before. -/
import Derived.Test.YtnmocdfogdcliaaRefBefore
namespace Go.Proofs.Ytnmocdfogdcliaa
open Go.RowKit

set_option maxRecDepth 100000 in
set_option maxHeartbeats 8000000 in
theorem before_34 {PA : Option Addr} {n pc : Nat} {cp st fl : Int} {lo hi dm ou sp : Nat → Int} (B t : Nat) (r1 r2 : Int) (w : World) (ht : t < n) (hg : Good cp fl n lo hi dm ou sp) (h2 : ok2 cp (r1, r2)) (hB : B ≤ w.heap.size) (hr : Rd w B PA (n * 5) (psc lo hi dm ou sp)) :
    Calls Try.prog 34 #[(.agg #[.int .i64 cp, .int .i64 st, .int .i64 fl, .slice PA n pc]), .int .i64 t, .agg #[.int .i64 r1, .int .i64 r2]] w fun e w' => e = .returned (.agg #[.int .i64 (bef cp lo hi dm ou sp t (r1, r2)).1, .int .i64 (bef cp lo hi dm ou sp t (r1, r2)).2]) ∧ Below w.heap.size w w' := by
  have HG := Lib.hid hg
  have HRD := Lib.hid hr
  have hcp : 0 ≤ cp ∧ cp ≤ 1099511627776 := hg.2.1
  have hp := hg.2.2.2 t ht
  clear hg
  obtain ⟨w0, hw0⟩ : ∃ zz, zz = ((w.alloc (.cells #[.int .i64 cp, .int .i64 st, .int .i64 fl, .slice PA n pc] 26)).alloc (.cells #[.int .i64 r1, .int .i64 r2] 48)).alloc (.cells #[.int .i64 0, .int .i64 0] 48) := ⟨_, rfl⟩
  have HK0 : Hid (Blk w0 w.heap.size 26 #[.int .i64 cp, .int .i64 st, .int .i64 fl, .slice PA n pc]) := Lib.hid (hw0 ▸ ((Blk.new _ _ _).alloc _).alloc _)
  have HR0 : Hid (Blk w0 (w.heap.size + 1) 48 #[.int .i64 r1, .int .i64 r2]) := Lib.hid (hw0 ▸ (Blk.new' (by simp)).alloc _)
  have HQ0 : Hid (Blk w0 (w.heap.size + 1 + 1) 48 #[.int .i64 0, .int .i64 0]) := Lib.hid (hw0 ▸ Blk.new' (by simp))
  have HB0 : Hid (Below w.heap.size w w0) := Lib.hid (by rw [hw0]; (repeat (first | exact Below.refl _ _ | exact below_alloc _ _ | refine Below.alloc ?_ (by simp; omega) _ | refine Below.alloc ?_ (by simp) _)))
  have HW := Lib.hid hw0
  clear hw0
  have ht' : (t : Int) < n := by omega
  have c0 : w0.cell? ⟨w.heap.size, 0, none⟩ = some (.int .i64 cp) := HK0.out.cell 0
  have c1 : w0.cell? ⟨w.heap.size, 1, none⟩ = some (.int .i64 st) := HK0.out.cell 1
  have c2 : w0.cell? ⟨w.heap.size, 2, none⟩ = some (.int .i64 fl) := HK0.out.cell 2
  have c3 : w0.cell? ⟨w.heap.size, 2 + 1, none⟩ = some (.slice PA n pc) := HK0.out.cell 3
  have d0 : w0.cell? ⟨w.heap.size + 1, 0, none⟩ = some (.int .i64 r1) := HR0.out.cell 0
  have d1 : w0.cell? ⟨w.heap.size + 1, 1, none⟩ = some (.int .i64 r2) := HR0.out.cell 1
  have HE : Hid (bef cp lo hi dm ou sp t (r1, r2) = if r2 < r1 then (1, 0) else if kpH cp hi sp t (r1, r2) < kpL lo t (r1, r2) then (1, 0) else if min cp (kpH cp hi sp t (r1, r2) + ou t) < kpL lo t (r1, r2) + dm t then (1, 0) else (kpL lo t (r1, r2) + dm t, min cp (kpH cp hi sp t (r1, r2) + ou t))) := Lib.hid rfl
  generalize bef cp lo hi dm ou sp t (r1, r2) = E at HE ⊢
  go_enter Try.func34, Try.ntmps34
  go_upto_region 1 with fail
  rw [← HW.out]
  by_cases h1 : r2 < r1
  · have HE2 : Hid (E = (1, 0)) := Lib.hid (by rw [HE.out, if_pos h1])
    go_wp2_with fail
    refine (empty_48 _).mono ?_
    rintro e w1 ⟨rfl, hb⟩
    have HBx := Lib.hid (HB0.out.trans (hb.mono HB0.out.size))
    have HQx := Lib.hid (HQ0.out.below hb HQ0.out.lt)
    clear hb
    have q0 : w1.cell? ⟨w.heap.size + 1 + 1, 0, none⟩ = some (.int .i64 0) := HQx.out.cell 0
    have q1 : w1.cell? ⟨w.heap.size + 1 + 1, 1, none⟩ = some (.int .i64 0) := HQx.out.cell 1
    have q2 := HQx.out.frozen 0
    have q3 := HQx.out.frozen 1
    go_wp2_with fail
    refine bodyPost_ret (results_cell_row rfl _ _ _ 48 _ (0, 0) _ rfl ((HQx.out.set_ 0 (.int .i64 1)).set_ 1 (.int .i64 0)) Try.underlying48 rfl (by kernel_rfl)) rfl ?_
    exact ⟨by rw [HE2.out]; rfl, (HBx.out.setCell (p := ⟨w.heap.size + 1 + 1, 0, none⟩) (by simp; omega) _).setCell (p := ⟨w.heap.size + 1 + 1, 1, none⟩) (by simp; omega) _⟩
  have HE3 := Lib.hid (HE.out.trans (if_neg h1))
  have h1' : r1 ≤ r2 := by omega
  have hrr : 0 ≤ r1 ∧ r1 ≤ cp ∧ 0 ≤ r2 ∧ r2 ≤ cp := by
    rcases h2 with h2 | h2
    · injection h2 with e1 e2; omega
    · simp only at h2; omega
  clear HE h2 h1
  have HK40 := Lib.hid (kept_40 (PA := PA) (pc := pc) (st := st) B t r1 r2 w0 ht HG.out hrr (by have := HB0.out.size; omega) (HRD.out.below (HB0.out.mono hB)))
  have hvL : 0 ≤ kpL lo t (r1, r2) ∧ kpL lo t (r1, r2) ≤ 1099511627776 := by simp only [kpL]; omega
  have hvH : -1099511627776 ≤ kpH cp hi sp t (r1, r2) ∧ kpH cp hi sp t (r1, r2) ≤ 2199023255552 := by simp only [kpH]; split <;> omega
  generalize kpL lo t (r1, r2) = vL at HE3 HK40 hvL
  generalize kpH cp hi sp t (r1, r2) = vH at HE3 HK40 hvH
  go_wp2_with fail
  refine HK40.out.mono ?_
  rintro e w2 ⟨rfl, hb⟩
  have HB2 := Lib.hid (HB0.out.trans (hb.mono HB0.out.size))
  have HQ2 := Lib.hid (HQ0.out.below hb HQ0.out.lt)
  have HK2 := Lib.hid (HK0.out.below hb HK0.out.lt)
  clear hb HK40 HK0 HR0 HQ0 HB0 c0 c1 c2 c3 d0 d1 HW hrr
  obtain ⟨b, o, rfl, _, _, _, p2, p3, _⟩ := per_at (HRD.out.below (HB2.out.mono hB)) ht
  clear HRD hr HG
  generalize lo t = z0 at *
  generalize hi t = z1 at *
  generalize dm t = z2 at *
  generalize ou t = z3 at *
  generalize sp t = z4 at *
  obtain ⟨_, ⟨y0, y1, y2⟩, _⟩ := hp
  obtain ⟨hcp0, hcp1⟩ := hcp
  obtain ⟨hvL0, hvL1⟩ := hvL
  obtain ⟨hvH0, hvH1⟩ := hvH
  by_cases h4 : vH < vL
  · have HE4 : Hid (E = (1, 0)) := Lib.hid (HE3.out.trans (if_pos h4))
    go_wp2_with fail
    refine (empty_48 _).mono ?_
    rintro e w4 ⟨rfl, hb⟩
    have HBx := Lib.hid (HB2.out.trans (hb.mono HB2.out.size))
    have HQx := Lib.hid (HQ2.out.below hb HQ2.out.lt)
    clear hb
    have q0 : w4.cell? ⟨w.heap.size + 1 + 1, 0, none⟩ = some (.int .i64 0) := HQx.out.cell 0
    have q1 : w4.cell? ⟨w.heap.size + 1 + 1, 1, none⟩ = some (.int .i64 0) := HQx.out.cell 1
    have q2 := HQx.out.frozen 0
    have q3 := HQx.out.frozen 1
    go_wp2_with fail
    refine bodyPost_ret (results_cell_row rfl _ _ _ 48 _ (0, 0) _ rfl ((HQx.out.set_ 0 (.int .i64 1)).set_ 1 (.int .i64 0)) Try.underlying48 rfl (by kernel_rfl)) rfl ?_
    exact ⟨by rw [HE4.out]; rfl, (HBx.out.setCell (p := ⟨w.heap.size + 1 + 1, 0, none⟩) (by simp; omega) _).setCell (p := ⟨w.heap.size + 1 + 1, 1, none⟩) (by simp; omega) _⟩
  have HE5 := Lib.hid (HE3.out.trans (if_neg h4))
  have h4' : vL ≤ vH := by omega
  clear HE3 h4
  have c0 : w2.cell? ⟨w.heap.size, 0, none⟩ = some (.int .i64 cp) := HK2.out.cell 0
  have c3 : w2.cell? ⟨w.heap.size, 2 + 1, none⟩ = some (.slice (some ⟨b, o, none⟩) n pc) := HK2.out.cell 3
  have hw1 : IntKind.i64.wrap (vL + z2) = vL + z2 := IntWalk.i64_in _ ⟨by omega, by omega⟩
  have hw2 : IntKind.i64.wrap (vH + z3) = vH + z3 := IntWalk.i64_in _ ⟨by omega, by omega⟩
  go_upto_region 7 with fail
  by_cases h5 : vH + z3 < cp
  · have hm : min cp (vH + z3) = vH + z3 := by omega
    have HE7 : Hid (E = if vH + z3 < vL + z2 then (1, 0) else (vL + z2, vH + z3)) := Lib.hid (by rw [HE5.out, hm])
    clear HE5 hm
    go_quiet (fail)
    have HQ3 := Lib.hid (HQ2.out.drewN nq)
    have HB3 : Hid (Below w.heap.size w (w2.drewN nq)) := Lib.hid (below_quiet HB2.out ⟨nq, rfl⟩)
    generalize w2.drewN nq = w3 at HQ3 HB3 ⊢
    clear HQ2 HB2 HK2 c0 c3
    clear hw1 hw2 h5
    generalize vH + z3 = m1 at HE7 ⊢
    by_cases h6 : m1 < vL + z2
    · have HE8 : Hid (E = (1, 0)) := Lib.hid (by rw [HE7.out, if_pos h6])
      go_wp2_with fail
      refine (empty_48 _).mono ?_
      rintro e w4 ⟨rfl, hb⟩
      have HBx := Lib.hid (HB3.out.trans (hb.mono HB3.out.size))
      have HQx := Lib.hid (HQ3.out.below hb HQ3.out.lt)
      clear hb
      have q0 : w4.cell? ⟨w.heap.size + 1 + 1, 0, none⟩ = some (.int .i64 0) := HQx.out.cell 0
      have q1 : w4.cell? ⟨w.heap.size + 1 + 1, 1, none⟩ = some (.int .i64 0) := HQx.out.cell 1
      have q2 := HQx.out.frozen 0
      have q3 := HQx.out.frozen 1
      go_wp2_with fail
      refine bodyPost_ret (results_cell_row rfl _ _ _ 48 _ (0, 0) _ rfl ((HQx.out.set_ 0 (.int .i64 1)).set_ 1 (.int .i64 0)) Try.underlying48 rfl (by kernel_rfl)) rfl ?_
      exact ⟨by rw [HE8.out]; rfl, (HBx.out.setCell (p := ⟨w.heap.size + 1 + 1, 0, none⟩) (by simp; omega) _).setCell (p := ⟨w.heap.size + 1 + 1, 1, none⟩) (by simp; omega) _⟩
    · have HE8 : Hid (E = (vL + z2, m1)) := Lib.hid (by rw [HE7.out, if_neg h6])
      have h6' : vL + z2 ≤ m1 := by omega
      have q0 : w3.cell? ⟨w.heap.size + 1 + 1, 0, none⟩ = some (.int .i64 0) := HQ3.out.cell 0
      have q1 : w3.cell? ⟨w.heap.size + 1 + 1, 1, none⟩ = some (.int .i64 0) := HQ3.out.cell 1
      have q2 := HQ3.out.frozen 0
      have q3 := HQ3.out.frozen 1
      go_wp2_with fail
      refine bodyPost_ret (results_cell_row rfl _ _ _ 48 _ (0, 0) _ rfl ((HQ3.out.set_ 0 (.int .i64 (vL + z2))).set_ 1 (.int .i64 (m1))) Try.underlying48 rfl (by kernel_rfl)) rfl ?_
      exact ⟨by rw [HE8.out]; rfl, (HB3.out.setCell (p := ⟨w.heap.size + 1 + 1, 0, none⟩) (by simp; omega) _).setCell (p := ⟨w.heap.size + 1 + 1, 1, none⟩) (by simp; omega) _⟩
  · have hm : min cp (vH + z3) = cp := by omega
    have HE7 : Hid (E = if cp < vL + z2 then (1, 0) else (vL + z2, cp)) := Lib.hid (by rw [HE5.out, hm])
    clear HE5 hm
    go_quiet (fail)
    have HQ3 := Lib.hid (HQ2.out.drewN nq)
    have HB3 : Hid (Below w.heap.size w (w2.drewN nq)) := Lib.hid (below_quiet HB2.out ⟨nq, rfl⟩)
    generalize w2.drewN nq = w3 at HQ3 HB3 ⊢
    clear HQ2 HB2 HK2 c0 c3
    by_cases h6 : cp < vL + z2
    · have HE8 : Hid (E = (1, 0)) := Lib.hid (by rw [HE7.out, if_pos h6])
      go_wp2_with fail
      refine (empty_48 _).mono ?_
      rintro e w4 ⟨rfl, hb⟩
      have HBx := Lib.hid (HB3.out.trans (hb.mono HB3.out.size))
      have HQx := Lib.hid (HQ3.out.below hb HQ3.out.lt)
      clear hb
      have q0 : w4.cell? ⟨w.heap.size + 1 + 1, 0, none⟩ = some (.int .i64 0) := HQx.out.cell 0
      have q1 : w4.cell? ⟨w.heap.size + 1 + 1, 1, none⟩ = some (.int .i64 0) := HQx.out.cell 1
      have q2 := HQx.out.frozen 0
      have q3 := HQx.out.frozen 1
      go_wp2_with fail
      refine bodyPost_ret (results_cell_row rfl _ _ _ 48 _ (0, 0) _ rfl ((HQx.out.set_ 0 (.int .i64 1)).set_ 1 (.int .i64 0)) Try.underlying48 rfl (by kernel_rfl)) rfl ?_
      exact ⟨by rw [HE8.out]; rfl, (HBx.out.setCell (p := ⟨w.heap.size + 1 + 1, 0, none⟩) (by simp; omega) _).setCell (p := ⟨w.heap.size + 1 + 1, 1, none⟩) (by simp; omega) _⟩
    · have HE8 : Hid (E = (vL + z2, cp)) := Lib.hid (by rw [HE7.out, if_neg h6])
      have h6' : vL + z2 ≤ cp := by omega
      have q0 : w3.cell? ⟨w.heap.size + 1 + 1, 0, none⟩ = some (.int .i64 0) := HQ3.out.cell 0
      have q1 : w3.cell? ⟨w.heap.size + 1 + 1, 1, none⟩ = some (.int .i64 0) := HQ3.out.cell 1
      have q2 := HQ3.out.frozen 0
      have q3 := HQ3.out.frozen 1
      go_wp2_with fail
      refine bodyPost_ret (results_cell_row rfl _ _ _ 48 _ (0, 0) _ rfl ((HQ3.out.set_ 0 (.int .i64 (vL + z2))).set_ 1 (.int .i64 (cp))) Try.underlying48 rfl (by kernel_rfl)) rfl ?_
      exact ⟨by rw [HE8.out]; rfl, (HB3.out.setCell (p := ⟨w.heap.size + 1 + 1, 0, none⟩) (by simp; omega) _).setCell (p := ⟨w.heap.size + 1 + 1, 1, none⟩) (by simp; omega) _⟩
end Go.Proofs.Ytnmocdfogdcliaa
