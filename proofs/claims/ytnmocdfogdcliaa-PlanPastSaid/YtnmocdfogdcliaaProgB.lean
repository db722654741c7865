/- Contract of the program's Next. -/
import Derived.Test.YtnmocdfogdcliaaNext
namespace Go.Proofs.Ytnmocdfogdcliaa
open Go.RowKit

set_option maxRecDepth 100000 in
set_option maxHeartbeats 8000000 in
theorem Next_19 {PA : Option Addr} {n pc : Nat} {cp st fl : Int} {lo hi dm ou sp : Nat → Int} (B : Nat) (t x r q : Int) (w : World) (hn : n ≤ 9223372036854775807) (hB : B ≤ w.heap.size) (hr : Rd w B PA (n * 5) (psc lo hi dm ou sp)) :
    Calls Try.prog 19 #[(.agg #[.int .i64 cp, .int .i64 st, .int .i64 fl, .slice PA n pc]), .int .i64 t, .int .i64 x, .int .i64 r, .int .i64 q] w fun e w' => e = .returned (nxV cp st fl n lo hi dm ou sp t x r q) ∧ Below w.heap.size w w' := by
  obtain ⟨w0, hw0⟩ : ∃ zz, zz = w.alloc (.cells #[.int .i64 cp, .int .i64 st, .int .i64 fl, .slice PA n pc] 26) := ⟨_, rfl⟩
  have HK0 : Hid (Blk w0 w.heap.size 26 #[.int .i64 cp, .int .i64 st, .int .i64 fl, .slice PA n pc]) := Lib.hid (hw0 ▸ Blk.new _ _ _)
  have HB0 : Hid (Below w.heap.size w w0) := Lib.hid (hw0 ▸ below_alloc _ _)
  have HW := Lib.hid hw0
  have HRD := Lib.hid hr
  have hrn := rd_new w0 #[.int .i64 r, .int .i64 q] 3 (fun j => .int .i64 ([r, q].getD j 0)) (fun j hj => by
    match j, hj with
    | 0, _ => rfl
    | 1, _ => rfl)
  have HAK0 := asked_37 (PA := PA) (pc := pc) (cp := cp) (st := st) (fl := fl) B t x (some ⟨w0.heap.size, 0, none⟩) 2 2 (fun j => [r, q].getD j 0) (w0.alloc (.cells #[.int .i64 r, .int .i64 q] 3)) hn (by omega) (by have := HB0.out.size; simp; omega) ((hr.below (HB0.out.mono hB)).alloc (by have := HB0.out.size; omega) _) (by rw [World.size_alloc]; exact hrn)
  rw [show mrB (fun j => [r, q].getD j 0) 2 = (ri3 0 r 1099511627776 && ri3 0 q 1099511627776) by simp [mrB]] at HAK0
  have HAK : Hid (Calls Try.prog 37 #[(.agg #[.int .i64 cp, .int .i64 st, .int .i64 fl, .slice PA n pc]), .int .i64 t, .int .i64 x, .slice (some ⟨w0.heap.size, 0, none⟩) 2 2] (w0.alloc (.cells #[.int .i64 r, .int .i64 q] 3)) fun e w' => e = .returned (.int .i64 (nxE cp st fl n lo hi dm ou sp t x r q)) ∧ Below w0.heap.size w0 w') := Lib.hid (HAK0.mono fun e w' h => ⟨h.1, (below_alloc w0 _).trans (h.2.mono (by simp))⟩)
  clear hw0 hr hrn HAK0
  have c0 : w0.cell? ⟨w.heap.size, 0, none⟩ = some (.int .i64 cp) := HK0.out.cell 0
  have c1 : w0.cell? ⟨w.heap.size, 1, none⟩ = some (.int .i64 st) := HK0.out.cell 1
  have c2 : w0.cell? ⟨w.heap.size, 2, none⟩ = some (.int .i64 fl) := HK0.out.cell 2
  have c3 : w0.cell? ⟨w.heap.size, 3, none⟩ = some (.slice PA n pc) := HK0.out.cell 3
  have HA0 : Hid (nxE cp st fl n lo hi dm ou sp t x r q = 0 → (ri3 0 r 1099511627776 && ri3 0 q 1099511627776) = true ∧ (chkE cp st fl n lo hi dm ou sp) = 0 ∧ (0 ≤ t ∧ t < n) ∧ 0 ≤ x ∧ x ≤ cp) := Lib.hid askM_zero
  have HG : Hid ((chkE cp st fl n lo hi dm ou sp) = 0 → Good cp fl n lo hi dm ou sp) := Lib.hid good_of
  have HBB : Hid (nxB cp st fl n lo hi dm ou sp t x r q = (decide (nxE cp st fl n lo hi dm ou sp t x r q = 0) && (alw dm ou t.toNat x r && nxO cp sp t.toNat x r q))) := Lib.hid rfl
  have HV : Hid (nxV cp st fl n lo hi dm ou sp t x r q = .tuple (nx4 (nxB cp st fl n lo hi dm ou sp t x r q) (nxN cp x r q) (nxS cp x r q) (nxE cp st fl n lo hi dm ou sp t x r q))) := Lib.hid rfl
  generalize nxV cp st fl n lo hi dm ou sp t x r q = V at HV ⊢
  generalize nxB cp st fl n lo hi dm ou sp t x r q = BB at HV HBB
  generalize nxE cp st fl n lo hi dm ou sp t x r q = E at HV HBB HAK HA0
  go_enter Try.func19, Try.ntmps19
  go_upto_region 1 with fail
  rw [← HW.out]
  clear HW
  go_wp2_with fail
  refine HAK.out.mono ?_
  rintro e w1 ⟨rfl, hb⟩
  have HB1 := Lib.hid (HB0.out.trans (hb.mono HB0.out.size))
  have HK1 := Lib.hid (HK0.out.below hb HK0.out.lt)
  clear hb HK0 HB0 HAK c0 c1 c2 c3
  by_cases h1 : ¬ E = 0
  · have HV2 : Hid (BB = false) := Lib.hid (by rw [HBB.out]; simp [h1])
    have h1d : (E == 0) = false := by simpa using h1
    go_wp2_with fail
    refine bodyPost_ret (results_tmp4 rfl _ _ _) rfl ?_
    exact ⟨ret_val (by rw [HV.out, HV2.out]; rfl), HB1.out⟩
  have h1 : E = 0 := by omega
  subst h1
  obtain ⟨a0, a1, ⟨a2, a3⟩, a4, a5⟩ := HA0.out rfl
  rw [Bool.and_eq_true, ri3_iff, ri3_iff] at a0
  have HGG := Lib.hid (HG.out a1)
  clear HG HA0 a1
  obtain ⟨k, rfl⟩ : ∃ k : Nat, t = k := ⟨t.toNat, by omega⟩
  rw [Int.toNat_natCast] at HBB
  have c0 : w1.cell? ⟨w.heap.size, 0, none⟩ = some (.int .i64 cp) := HK1.out.cell 0
  have c1 : w1.cell? ⟨w.heap.size, 1, none⟩ = some (.int .i64 st) := HK1.out.cell 1
  have c2 : w1.cell? ⟨w.heap.size, 2, none⟩ = some (.int .i64 fl) := HK1.out.cell 2
  have c3 : w1.cell? ⟨w.heap.size, 3, none⟩ = some (.slice PA n pc) := HK1.out.cell 3
  have hkn : k < n := by omega
  have HAL := Lib.hid (allowed_41 (PA := PA) (pc := pc) (cp := cp) (st := st) (fl := fl) (lo := lo) (hi := hi) (dm := dm) (ou := ou) (sp := sp) B k x r w1 hkn (by have := HB1.out.size; omega) (HRD.out.below (HB1.out.mono hB)))
  generalize alw dm ou k x r = AL at HAL HBB
  go_wp2_with fail
  refine HAL.out.mono ?_
  rintro e w2 ⟨rfl, hb⟩
  have HB2 := Lib.hid (HB1.out.trans (hb.mono HB1.out.size))
  have HK2 := Lib.hid (HK1.out.below hb HK1.out.lt)
  clear hb HB1 HK1 c0 c1 c2 c3 HAL
  cases AL
  · have HV2 : Hid (BB = false) := Lib.hid (by rw [HBB.out]; simp)
    go_wp2_with fail
    refine bodyPost_ret (results_tmp4 rfl _ _ _) rfl ?_
    exact ⟨ret_val (by rw [HV.out, HV2.out]; rfl), HB2.out⟩
  have hcp := HGG.out.2.1
  have c0 : w2.cell? ⟨w.heap.size, 0, none⟩ = some (.int .i64 cp) := HK2.out.cell 0
  have c1 : w2.cell? ⟨w.heap.size, 1, none⟩ = some (.int .i64 st) := HK2.out.cell 1
  have c2 : w2.cell? ⟨w.heap.size, 2, none⟩ = some (.int .i64 fl) := HK2.out.cell 2
  have c3 : w2.cell? ⟨w.heap.size, 3, none⟩ = some (.slice PA n pc) := HK2.out.cell 3
  have HAF := Lib.hid (after_42 (PA := PA) (pc := pc) (cp := cp) (st := st) (fl := fl) (lo := lo) (hi := hi) (dm := dm) (ou := ou) (sp := sp) B k x r q w2 hkn hcp (by omega) a0.2 a0.1 (by have := HB2.out.size; omega) (HRD.out.below (HB2.out.mono hB)))
  have HBO : Hid (BB = nxO cp sp k x r q) := Lib.hid (by rw [HBB.out]; simp)
  clear HBB HRD
  generalize nxN cp x r q = N at HV HAF
  generalize nxS cp x r q = S at HV HAF
  generalize nxO cp sp k x r q = O at HAF HBO
  unfold nx3 at HAF
  cases O
  · simp only [Bool.false_eq_true, if_false] at HAF
    go_wp2_with fail
    refine HAF.out.mono ?_
    rintro e w3 ⟨rfl, hb⟩
    have HB3 := Lib.hid (HB2.out.trans (hb.mono HB2.out.size))
    clear hb
    go_wp2_with fail
    refine bodyPost_ret (results_tmp4 rfl _ _ _) rfl ?_
    exact ⟨ret_val (by rw [HV.out, HBO.out]; rfl), HB3.out⟩
  · simp only [if_true] at HAF
    go_wp2_with fail
    refine HAF.out.mono ?_
    rintro e w3 ⟨rfl, hb⟩
    have HB3 := Lib.hid (HB2.out.trans (hb.mono HB2.out.size))
    clear hb
    go_wp2_with fail
    refine bodyPost_ret (results_tmp4 rfl _ _ _) rfl ?_
    exact ⟨ret_val (by rw [HV.out, HBO.out]; rfl), HB3.out⟩
end Go.Proofs.Ytnmocdfogdcliaa
