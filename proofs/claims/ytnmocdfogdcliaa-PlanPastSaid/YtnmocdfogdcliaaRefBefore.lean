/- Contracts of the reference's kept and before. -/
import Derived.Test.YtnmocdfogdcliaaRefCheck
namespace Go.Proofs.Ytnmocdfogdcliaa
open Go.RowKit

theorem results_cell_row {P : Program} {fn : Func} {p : Tmp} {ty : TypeId} (h : fn.results = #[.cell p ty]) (tmps : Array Value) (w : World) (g : Nat) (t : TypeId) (cs : Array Value) (fr : Nat × Nat) (d : TypeDesc)
    (hp : tmps.getD p undef = .pointer (some ⟨g, 0, none⟩)) (hg : w.heap[g]? = some (.cells cs t fr))
    (hu : P.underlying ty = some d) (hd : (match d with | .struct _ | .array _ _ => true | _ => false) = true) (hi : (P.info? ty).map (·.size) = some cs.size) :
    (results fn tmps).run P w = .ok (.agg cs) w := by
  have hp' : tmps[p]?.getD undef = .pointer (some ⟨g, 0, none⟩) := by simpa using hp
  simp [results, h, hp', asAddr, run_loadVar_row w g t ty cs fr d hg hu hd hi]

set_option maxRecDepth 100000 in
theorem empty_48 (w : World) : Calls Try.prog 48 #[] w fun e w' => e = .returned (.agg #[.int .i64 1, .int .i64 0]) ∧ Below w.heap.size w w' := by
  have HB : Hid (Blk (w.alloc (.cells #[.int .i64 1, .int .i64 0] 48)) w.heap.size 48 #[.int .i64 1, .int .i64 0]) := Lib.hid (Blk.new _ _ _)
  go_enter Try.func48, Try.ntmps48
  go_wp2_with fail
  refine bodyPost_ret (results_cell_row rfl _ _ _ 48 _ (0, 0) _ rfl HB.out Try.underlying48 rfl (by kernel_rfl)) rfl ?_
  exact ⟨rfl, below_alloc _ _⟩
/-- a right course, its bounds -/
def Good (cp fl : Int) (n : Nat) (lo hi dm ou sp : Nat → Int) : Prop := n ≤ 64 ∧ (0 ≤ cp ∧ cp ≤ 1099511627776) ∧ (0 ≤ fl ∧ fl ≤ cp) ∧ ∀ j, j < n → (0 ≤ lo j ∧ lo j ≤ hi j ∧ hi j ≤ 1099511627776) ∧ (0 ≤ dm j ∧ dm j ≤ ou j ∧ ou j ≤ 1099511627776) ∧ 0 ≤ sp j ∧ sp j ≤ 1099511627776
theorem good_of {cp st fl : Int} {n : Nat} {lo hi dm ou sp : Nat → Int} (h : (chkE cp st fl n lo hi dm ou sp) = 0) : Good cp fl n lo hi dm ou sp := by
  obtain ⟨h1, h2, h3, h4⟩ := chk_zero h
  exact ⟨h1, ⟨by omega, h2.2.2⟩, h3, fun j hj => okP_iff.1 (h4 j hj)⟩

set_option maxRecDepth 100000 in
set_option maxHeartbeats 8000000 in
theorem kept_40 {PA : Option Addr} {n pc : Nat} {cp st fl : Int} {lo hi dm ou sp : Nat → Int} (B t : Nat) (r1 r2 : Int) (w : World) (ht : t < n) (hg : Good cp fl n lo hi dm ou sp) (h2 : 0 ≤ r1 ∧ r1 ≤ cp ∧ 0 ≤ r2 ∧ r2 ≤ cp) (hB : B ≤ w.heap.size) (hr : Rd w B PA (n * 5) (psc lo hi dm ou sp)) :
    Calls Try.prog 40 #[(.agg #[.int .i64 cp, .int .i64 st, .int .i64 fl, .slice PA n pc]), .int .i64 t, .agg #[.int .i64 r1, .int .i64 r2]] w fun e w' => e = .returned (.tuple #[.int .i64 (kpL lo t (r1, r2)), .int .i64 (kpH cp hi sp t (r1, r2))]) ∧ Below w.heap.size w w' := by
  obtain ⟨g1, ⟨g2, g3⟩, _, g4⟩ := hg
  obtain ⟨⟨x0, x1, x2⟩, _, x3, x4⟩ := g4 t ht
  obtain ⟨y0, y1, y2, y3⟩ := h2
  obtain ⟨w0, hw0⟩ : ∃ zz, zz = (w.alloc (.cells #[.int .i64 cp, .int .i64 st, .int .i64 fl, .slice PA n pc] 26)).alloc (.cells #[.int .i64 r1, .int .i64 r2] 48) := ⟨_, rfl⟩
  have HK0 : Hid (Blk w0 w.heap.size 26 #[.int .i64 cp, .int .i64 st, .int .i64 fl, .slice PA n pc]) := Lib.hid (hw0 ▸ (Blk.new _ _ _).alloc _)
  have HR0 : Hid (Blk w0 (w.heap.size + 1) 48 #[.int .i64 r1, .int .i64 r2]) := Lib.hid (hw0 ▸ Blk.new' (by simp))
  have HB0 : Hid (Below w.heap.size w w0) := Lib.hid (by rw [hw0]; (repeat (first | exact Below.refl _ _ | exact below_alloc _ _ | refine Below.alloc ?_ (by simp; omega) _ | refine Below.alloc ?_ (by simp) _)))
  have HW := Lib.hid hw0
  clear hw0 g4
  have c0 : w0.cell? ⟨w.heap.size, 0, none⟩ = some (.int .i64 cp) := HK0.out.cell 0
  have c3 : w0.cell? ⟨w.heap.size, 2 + 1, none⟩ = some (.slice PA n pc) := HK0.out.cell 3
  have d0 : w0.cell? ⟨w.heap.size + 1, 0, none⟩ = some (.int .i64 r1) := HR0.out.cell 0
  have d1 : w0.cell? ⟨w.heap.size + 1, 1, none⟩ = some (.int .i64 r2) := HR0.out.cell 1
  have ht' : (t : Int) < n := by omega
  obtain ⟨b, o, rfl, _, p0, p1, p2, p3, p4⟩ := per_at (hr.below (HB0.out.mono hB)) ht
  have HPL : Hid (kpL lo t (r1, r2) = max 0 (r1 - lo t)) := Lib.hid rfl
  have HPH : Hid (kpH cp hi sp t (r1, r2) = (if r2 = cp then cp + sp t else r2) - hi t) := Lib.hid rfl
  clear hr
  generalize kpL lo t (r1, r2) = vL at HPL ⊢
  generalize kpH cp hi sp t (r1, r2) = vH at HPH ⊢
  generalize lo t = z0 at *
  generalize hi t = z1 at *
  generalize dm t = z2 at *
  generalize ou t = z3 at *
  generalize sp t = z4 at *
  go_enter Try.func40, Try.ntmps40
  go_upto_region 1 with fail
  rw [← HW.out]
  go_upto_region 2 with fail
  obtain ⟨v1, hv1⟩ : ∃ zz, zz = w0.alloc (.cells #[.int .i64 z0, .int .i64 z1, .int .i64 z2, .int .i64 z3, .int .i64 z4] 50) := ⟨_, rfl⟩
  have HX1 : Hid (Blk v1 w0.heap.size 50 #[.int .i64 z0, .int .i64 z1, .int .i64 z2, .int .i64 z3, .int .i64 z4]) := Lib.hid (hv1 ▸ Blk.new _ _ _)
  have HB1 : Hid (Below w.heap.size w v1) := Lib.hid (hv1 ▸ HB0.out.alloc HB0.out.size _)
  have HK1 : Hid (Blk v1 w.heap.size 26 #[.int .i64 cp, .int .i64 st, .int .i64 fl, .slice (some ⟨b, o, none⟩) n pc]) := Lib.hid (hv1 ▸ HK0.out.alloc _)
  have HR1 : Hid (Blk v1 (w.heap.size + 1) 48 #[.int .i64 r1, .int .i64 r2]) := Lib.hid (hv1 ▸ HR0.out.alloc _)
  rw [← hv1]
  clear hv1 p0 p1 p2 p3 p4 c0 c3 d0 d1 HK0 HR0 HB0
  have c0 : v1.cell? ⟨w.heap.size, 0, none⟩ = some (.int .i64 cp) := HK1.out.cell 0
  have d0 : v1.cell? ⟨w.heap.size + 1, 0, none⟩ = some (.int .i64 r1) := HR1.out.cell 0
  have d1 : v1.cell? ⟨w.heap.size + 1, 1, none⟩ = some (.int .i64 r2) := HR1.out.cell 1
  have q0 : v1.cell? ⟨w0.heap.size, 0, none⟩ = some (.int .i64 z0) := HX1.out.cell 0
  have q1 : v1.cell? ⟨w0.heap.size, 1, none⟩ = some (.int .i64 z1) := HX1.out.cell 1
  have q3 : v1.cell? ⟨w0.heap.size, 3 + 1, none⟩ = some (.int .i64 z4) := HX1.out.cell 4
  have hw1 : IntKind.i64.wrap (r1 - z0) = r1 - z0 := IntWalk.i64_in _ ⟨by omega, by omega⟩
  by_cases hc : r2 = cp
  · have HPH2 : Hid (vH = cp + z4 - z1) := Lib.hid (by rw [HPH.out, if_pos hc])
    have hw2 : IntKind.i64.wrap (cp + z4) = cp + z4 := IntWalk.i64_in _ ⟨by omega, by omega⟩
    have hw3 : IntKind.i64.wrap (cp + z4 - z1) = cp + z4 - z1 := IntWalk.i64_in _ ⟨by omega, by omega⟩
    subst hc
    by_cases hz : z0 < r1
    · have HPL2 : Hid (vL = r1 - z0) := Lib.hid (by rw [HPL.out]; omega)
      go_upto_region 5 with fail
      go_quiet (fail)
      go_wp2_with fail
      refine bodyPost_ret (results_tmp2 rfl _ _ _) rfl ?_
      exact ⟨ret_val (by rw [HPL2.out, HPH2.out]; rfl), below_quiet HB1.out ⟨_, rfl⟩⟩
    · have HPL2 : Hid (vL = 0) := Lib.hid (by rw [HPL.out]; omega)
      go_upto_region 5 with fail
      go_quiet (fail)
      go_wp2_with fail
      refine bodyPost_ret (results_tmp2 rfl _ _ _) rfl ?_
      exact ⟨ret_val (by rw [HPL2.out, HPH2.out]; rfl), below_quiet HB1.out ⟨_, rfl⟩⟩
  · have HPH2 : Hid (vH = r2 - z1) := Lib.hid (by rw [HPH.out, if_neg hc])
    have hc' : (r2 == cp) = false := by simpa using hc
    have hw3 : IntKind.i64.wrap (r2 - z1) = r2 - z1 := IntWalk.i64_in _ ⟨by omega, by omega⟩
    clear hc
    by_cases hz : z0 < r1
    · have HPL2 : Hid (vL = r1 - z0) := Lib.hid (by rw [HPL.out]; omega)
      go_upto_region 5 with fail
      go_quiet (fail)
      go_wp2_with fail
      refine bodyPost_ret (results_tmp2 rfl _ _ _) rfl ?_
      exact ⟨ret_val (by rw [HPL2.out, HPH2.out]; rfl), below_quiet HB1.out ⟨_, rfl⟩⟩
    · have HPL2 : Hid (vL = 0) := Lib.hid (by rw [HPL.out]; omega)
      go_upto_region 5 with fail
      go_quiet (fail)
      go_wp2_with fail
      refine bodyPost_ret (results_tmp2 rfl _ _ _) rfl ?_
      exact ⟨ret_val (by rw [HPL2.out, HPH2.out]; rfl), below_quiet HB1.out ⟨_, rfl⟩⟩
end Go.Proofs.Ytnmocdfogdcliaa
