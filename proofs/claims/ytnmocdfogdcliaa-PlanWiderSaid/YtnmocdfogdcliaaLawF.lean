/- Contract of the law PlanWider: it returns true for every course and all numbers. -/
import Derived.Test.YtnmocdfogdcliaaSane
import Derived.Test.YtnmocdfogdcliaaOpen
import Derived.Test.YtnmocdfogdcliaaFails
import Derived.Test.YtnmocdfogdcliaaWider
import Derived.StillTailTactics
namespace Go.Proofs.Ytnmocdfogdcliaa
open Go.RowKit

/-- a row of periods, one period changed -/
theorem row_upd {cur : Array Value} {n i : Nat} {lo hi dm ou sp : Nat → Int} (h0 : n * 5 ≤ cur.size) (hc : ∀ j, j < n * 5 → cur[j]? = some (psc lo hi dm ou sp j)) (hi' : i < n) (a b c d e : Int) :
    ∀ j, j < n * 5 → (((((cur.setIfInBounds (i * 5) (.int .i64 a)).setIfInBounds (i * 5 + 1) (.int .i64 b)).setIfInBounds (i * 5 + 2) (.int .i64 c)).setIfInBounds (i * 5 + 3) (.int .i64 d)).setIfInBounds (i * 5 + 4) (.int .i64 e))[j]? = some (psc (upd lo i a) (upd hi i b) (upd dm i c) (upd ou i d) (upd sp i e) j) := by
  intro j hj
  obtain ⟨q, r, hr, rfl⟩ : ∃ q r, r < 5 ∧ j = q * 5 + r := ⟨j / 5, j % 5, by omega, by omega⟩
  have hcj := hc _ hj
  by_cases e1 : q = i
  · subst e1
    match r, hr with
    | 0, _ =>
      simp only [Nat.add_zero]
      rw [set_off _ (by omega), set_off _ (by omega), set_off _ (by omega), set_off _ (by omega), set_at _ (by omega), psc_0, upd_same]
    | 1, _ =>
      rw [set_off _ (by omega), set_off _ (by omega), set_off _ (by omega), set_at _ (by simp; omega), psc_1, upd_same]
    | 2, _ =>
      rw [set_off _ (by omega), set_off _ (by omega), set_at _ (by simp; omega), psc_2, upd_same]
    | 3, _ =>
      rw [set_off _ (by omega), set_at _ (by simp; omega), psc_3, upd_same]
    | 4, _ =>
      rw [set_at _ (by simp; omega), psc_4, upd_same]
  · rw [set_off _ (by omega), set_off _ (by omega), set_off _ (by omega), set_off _ (by omega), set_off _ (by omega), hcj]
    match r, hr with
    | 0, _ =>
      simp only [Nat.add_zero]
      rw [psc_0, psc_0, upd_off e1]
    | 1, _ => rw [psc_1, psc_1, upd_off e1]
    | 2, _ => rw [psc_2, psc_2, upd_off e1]
    | 3, _ => rw [psc_3, psc_3, upd_off e1]
    | 4, _ => rw [psc_4, psc_4, upd_off e1]

set_option maxRecDepth 100000 in
set_option maxHeartbeats 8000000 in
theorem wider_9 {PA : Option Addr} {n pc : Nat} {cp st fl : Int} {lo hi dm ou sp : Nat → Int} (B : Nat) (a1 a2 a3 a4 a5 a6 : Int) (w : World) (hn : n ≤ 9223372036854775807) (k1 : 0 ≤ a1 ∧ a1 ≤ 255) (k2 : 0 ≤ a2 ∧ a2 ≤ 65535) (k3 : 0 ≤ a3 ∧ a3 ≤ 65535) (k4 : 0 ≤ a4 ∧ a4 ≤ 65535) (k5 : 0 ≤ a5 ∧ a5 ≤ 65535) (k6 : 0 ≤ a6 ∧ a6 ≤ 65535) (hB : B ≤ w.heap.size) (hr : Rd w B PA (n * 5) (psc lo hi dm ou sp)) :
    Calls Try.prog 9 #[(.agg #[.int .i64 cp, .int .i64 st, .int .i64 fl, .slice PA n pc]), .int .u8 a1, .int .u16 a2, .int .u16 a3, .int .u16 a4, .int .u16 a5, .int .u16 a6] w fun e w' => e = .returned (.bool true) ∧ Below w.heap.size w w' := by
  obtain ⟨w0, hw0⟩ : ∃ zz, zz = w.alloc (.cells #[.int .i64 cp, .int .i64 st, .int .i64 fl, .slice PA n pc] 26) := ⟨_, rfl⟩
  have HK0 : Hid (Blk w0 w.heap.size 26 #[.int .i64 cp, .int .i64 st, .int .i64 fl, .slice PA n pc]) := Lib.hid (hw0 ▸ Blk.new _ _ _)
  have HB0 : Hid (Below w.heap.size w w0) := Lib.hid (hw0 ▸ below_alloc _ _)
  have HW := Lib.hid hw0
  have HRD := Lib.hid hr
  have H12 : Hid (∀ W, Below w.heap.size w W → Calls Try.prog 12 #[(.agg #[.int .i64 cp, .int .i64 st, .int .i64 fl, .slice PA n pc])] W fun e w' => RobR (chkE cp st fl n lo hi dm ou sp) n (rb cp fl n lo hi dm ou sp) e w' ∧ Below W.heap.size W w') := Lib.hid fun W h => Robust_12 B W hn (by have := h.size; omega) (hr.below (h.mono hB))
  have HG : Hid ((chkE cp st fl n lo hi dm ou sp) = 0 → Good cp fl n lo hi dm ou sp) := Lib.hid good_of
  have HWD : Hid ((chkE cp st fl n lo hi dm ou sp) = 0 → ∀ i, i < n → chkE cp st fl n (upd lo i (min (hi i) (lo i + a2))) (upd hi i (max (min (hi i) (lo i + a2)) (hi i - a3))) (upd dm i (max 0 (dm i - a4))) (upd ou i (min 1099511627776 (ou i + a5))) (upd sp i (min 1099511627776 (sp i + a6))) = 0 ∧
      ∀ t, sub2 (rb cp fl n lo hi dm ou sp t) (rb cp fl n (upd lo i (min (hi i) (lo i + a2))) (upd hi i (max (min (hi i) (lo i + a2)) (hi i - a3))) (upd dm i (max 0 (dm i - a4))) (upd ou i (min 1099511627776 (ou i + a5))) (upd sp i (min 1099511627776 (sp i + a6))) t)) := Lib.hid fun h i hi' => wider_ok h hi' k2.1 k3.1 k4.1 k5.1 k6.1
  clear hw0 hr hn
  generalize (chkE cp st fl n lo hi dm ou sp) = CE at H12 HG HWD
  go_enter Try.func9, Try.ntmps9
  go_upto_region 1 with fail
  rw [← HW.out]
  clear HW
  go_wp2_with fail
  refine (sane_11 _).mono ?_
  rintro e w1 ⟨rfl, hb⟩
  have HB1 := Lib.hid (HB0.out.trans (hb.mono HB0.out.size))
  have HK1 := Lib.hid (HK0.out.below hb HK0.out.lt)
  clear hb HB0 HK0
  have c0 : w1.cell? ⟨w.heap.size, 0, none⟩ = some (.int .i64 cp) := HK1.out.cell 0
  have c1 : w1.cell? ⟨w.heap.size, 1, none⟩ = some (.int .i64 st) := HK1.out.cell 1
  have c2 : w1.cell? ⟨w.heap.size, 2, none⟩ = some (.int .i64 fl) := HK1.out.cell 2
  have c3 : w1.cell? ⟨w.heap.size, 3, none⟩ = some (.slice PA n pc) := HK1.out.cell 3
  go_wp2_with fail
  refine (H12.out _ HB1.out).mono ?_
  rintro e w2 ⟨⟨A1, q1, m1, rfl, hz1, _⟩, hb⟩
  have HB2 := Lib.hid (HB1.out.trans (hb.mono HB1.out.size))
  have HK2 := Lib.hid (HK1.out.below hb HK1.out.lt)
  have HZ1 := Lib.hid hz1
  clear hb HB1 HK1 hz1 H12 c0 c1 c2 c3
  have c0 : w2.cell? ⟨w.heap.size, 0, none⟩ = some (.int .i64 cp) := HK2.out.cell 0
  have c1 : w2.cell? ⟨w.heap.size, 1, none⟩ = some (.int .i64 st) := HK2.out.cell 1
  have c2 : w2.cell? ⟨w.heap.size, 2, none⟩ = some (.int .i64 fl) := HK2.out.cell 2
  have c3 : w2.cell? ⟨w.heap.size, 3, none⟩ = some (.slice PA n pc) := HK2.out.cell 3
  have c3' : w2.cell? ⟨w.heap.size, 2 + 1, none⟩ = some (.slice PA n pc) := HK2.out.cell 3
  by_cases hCE : ¬ CE = 0
  · have h1d : (CE == 0) = false := by simpa using hCE
    have h1e : (CE != 0) = true := by simpa using hCE
    go_wp2_with fail
    go_ret
    exact ⟨rfl, HB2.out⟩
  have hCE : CE = 0 := by omega
  subst hCE
  obtain ⟨rfl, rfl, hrow⟩ := HZ1.out rfl
  have HG2 := Lib.hid (HG.out rfl)
  have HWD2 := Lib.hid (HWD.out rfl)
  clear HG HWD HZ1
  have h64 : n ≤ 64 := HG2.out.1
  by_cases hn0 : n = 0
  · subst hn0
    go_wp2_with fail
    go_ret
    exact ⟨rfl, HB2.out⟩
  have hnd : ((n : Int) == 0) = false := by simp; omega
  go_upto_region 7 with fail
  obtain ⟨e1, he1⟩ : ∃ zz, zz = w2.alloc (.cells #[.int .i64 cp, .int .i64 st, .int .i64 fl, .slice PA n pc] 26) := ⟨_, rfl⟩
  have HD1 : Hid (Blk e1 w2.heap.size 26 #[.int .i64 cp, .int .i64 st, .int .i64 fl, .slice PA n pc]) := Lib.hid (he1 ▸ Blk.new _ _ _)
  have HC1 : Hid (Blk e1 w.heap.size 26 #[.int .i64 cp, .int .i64 st, .int .i64 fl, .slice PA n pc]) := Lib.hid (he1 ▸ HK2.out.alloc _)
  have HB3 : Hid (Below w.heap.size w e1) := Lib.hid (he1 ▸ HB2.out.alloc HB2.out.size _)
  have HROW : Hid (Rd e1 w2.heap.size A1 ((n + 1) * 2) (rsc (rb cp fl n lo hi dm ou sp))) := Lib.hid (he1 ▸ hrow.alloc (Nat.le_refl _) _)
  have hdw : w.heap.size ≤ w2.heap.size := HB2.out.size
  rw [← he1]
  clear he1 HB2 HK2 hrow c0 c1 c2 c3 c3'
  generalize w2.heap.size = db at *
  clear w2
  have hdlt := HD1.out.lt
  have hclt := HC1.out.lt
  have c3 : e1.cell? ⟨w.heap.size, 2 + 1, none⟩ = some (.slice PA n pc) := HC1.out.cell 3
  have c3' : e1.cell? ⟨w.heap.size, 3, none⟩ = some (.slice PA n pc) := HC1.out.cell 3
  obtain ⟨i50, hj, hj0, hj1, hj2⟩ := info_three info50
  have HNEW := Lib.hid (rowX_new ((HRD.out.below (HB3.out.mono hB)).alloc (w := e1) (by have := HB3.out.size; omega) (.cells #[] 50)))
  have HNON := Lib.hid (rowX_none HRD.out)
  have hnl := rowX_len (lo := lo) (hi := hi) (dm := dm) (ou := ou) (sp := sp) (n := n)
  have HONE := Lib.hid (rowX_one (lo := lo) (hi := hi) (dm := dm) (ou := ou) (sp := sp) (n := n))
  have HRX : Hid (∀ W A c, W.ownsRow e1.heap.size 50 5 (.slice A n c) n (rowX lo hi dm ou sp n) → RowP W e1.heap.size A n lo hi dm ou sp) := Lib.hid fun W A c h => RowP.of_own h
  generalize rowX lo hi dm ou sp n = news at HNEW hnl HONE HRX
  go_upto_region 8 with (at_builtin; refine wpList_append_any rfl _ _ 24 rfl e1.heap.size 50 i50 (.agg #[.int .i64 0, .int .i64 0, .int .i64 0, .int .i64 0, .int .i64 0]) 5 40 Try.underlying24 hj hj0 hj1 hj2 rfl (by decide) (.slice (some ⟨e1.heap.size, 0, none⟩) 0 0) 0 [] rfl (own_empty (Blk.new _ _ _) (Nat.le_refl _)) PA n pc news rfl hnl HNON.out HNEW.out HONE.out (by unfold maxLen; omega) (by omega) (by simp) ?_; intro va wa hown1 hgrow1 _; rw [Nat.zero_add, List.nil_append] at hown1; obtain ⟨Aa, cva, hva⟩ := own_form hown1; subst hva; have HDA := Lib.hid (blk_of_grown (HD1.out.alloc _) hgrow1 (fun e => (show db ≠ e1.heap.size by omega) (Option.some.inj e).symm)); have HBA : Hid (Below e1.heap.size e1 wa) := Lib.hid ((below_alloc e1 (.cells #[] 50)).grown hgrow1 (by simp) (fun q e => Nat.le_of_eq (Option.some.inj e))); have ca3 : wa.cell? ⟨db, 2 + 1, none⟩ = some (.slice PA n pc) := HDA.out.cell 3; have ca3' : wa.cell? ⟨db, 3, none⟩ = some (.slice PA n pc) := HDA.out.cell 3; have fa3 := HDA.out.frozen 3; have HRA := Lib.hid (HRX.out _ _ _ hown1); clear hown1 hgrow1)
  obtain ⟨e2, he2⟩ : ∃ zz, zz = wa.setCell ⟨db, 2 + 1, none⟩ (.slice Aa n cva) := ⟨_, rfl⟩
  have HD2 : Hid (Blk e2 db 26 #[.int .i64 cp, .int .i64 st, .int .i64 fl, .slice Aa n cva]) := Lib.hid (he2 ▸ HDA.out.set_ 3 _)
  have HB4 : Hid (Below w.heap.size w e2) := Lib.hid (he2 ▸ (HB3.out.trans (HBA.out.mono HB3.out.size)).setCell (p := ⟨db, 2 + 1, none⟩) hdw _)
  have HR2 : Hid (RowP e2 e1.heap.size Aa n lo hi dm ou sp) := Lib.hid (he2 ▸ HRA.out.far (p := ⟨db, 2 + 1, none⟩) hdlt _)
  have HROW2 : Hid (Rd e2 db A1 ((n + 1) * 2) (rsc (rb cp fl n lo hi dm ou sp))) := Lib.hid (he2 ▸ (HROW.out.below (HBA.out.mono (Nat.le_of_lt hdlt))).setCell (p := ⟨db, 2 + 1, none⟩) (Nat.le_refl _) _)
  rw [← he2]
  clear he2 ca3 ca3' fa3 HDA HBA HRA HD1 HC1 HB3 HROW c3 c3' HNEW HNON HONE HRX hnl hj hj0 hj1 hj2
  clear wa
  rcases HR2.out with h0 | ⟨g, cur, e, hbase, hg, hsz, hcur⟩
  · omega
  subst e
  have hgdb : db < g := by omega
  clear HR2 hbase hdlt hclt
  generalize e1.heap.size = base at *

  obtain ⟨ii, hii⟩ : ∃ ii : Nat, (ii : Int) = a1 % (n : Int) := ⟨(a1 % (n : Int)).toNat, by have := Int.emod_nonneg a1 (show (n : Int) ≠ 0 by omega); omega⟩
  have hin : ii < n := by have := Int.emod_lt_of_pos a1 (show (0 : Int) < n by omega); omega
  have htm : Int.tmod a1 (n : Int) = (ii : Int) := by rw [Int.tmod_eq_emod_of_nonneg k1.1]; exact hii.symm
  have hin' : (ii : Int) < n := by omega
  have hwa1 : IntKind.i64.wrap a1 = a1 := IntWalk.i64_in _ ⟨by omega, by omega⟩
  have hwii : IntKind.i64.wrap (ii : Int) = ii := IntWalk.i64_in _ ⟨by omega, by omega⟩
  have hn00 : (n : Int) ≠ 0 := by omega
  clear hii
  obtain ⟨hp1, hp2, hp3, hp4⟩ := HG2.out.2.2.2 ii hin
  have HW2 := Lib.hid (HWD2.out ii hin)
  have HUP := Lib.hid (fun a b c d e => row_upd (i := ii) hsz hcur hin a b c d e)
  have x0 := hcur (ii * 5) (by omega)
  have x1 := hcur (ii * 5 + 1) (by omega)
  have x2 := hcur (ii * 5 + 2) (by omega)
  have x3 := hcur (ii * 5 + 3) (by omega)
  have x4 := hcur (ii * 5 + 4) (by omega)
  rw [psc_0] at x0
  rw [psc_1] at x1
  rw [psc_2] at x2
  rw [psc_3] at x3
  rw [psc_4] at x4
  have HGB := Lib.hid hg
  clear hg hcur HWD2
  have d3 : e2.cell? ⟨db, 2 + 1, none⟩ = some (.slice (some ⟨g, 0, none⟩) n cva) := HD2.out.cell 3
  have d3' : e2.cell? ⟨db, 3, none⟩ = some (.slice (some ⟨g, 0, none⟩) n cva) := HD2.out.cell 3
  go_quiet (fail)
  have HGB3 := Lib.hid (HGB.out.drewN nq)
  have HD3 := Lib.hid (HD2.out.drewN nq)
  have HROW3 := Lib.hid (HROW2.out.drewN nq)
  have HB5 : Hid (Below w.heap.size w (e2.drewN nq)) := Lib.hid (below_quiet HB4.out ⟨nq, rfl⟩)
  generalize e2.drewN nq = e3 at HGB3 HD3 HROW3 HB5 ⊢
  clear HGB HD2 HROW2 HB4 d3 d3'
  clear e2
  have hdw3 : w.heap.size ≤ g := by omega
  generalize lo ii = z0 at *
  generalize hi ii = z1 at *
  generalize dm ii = z2 at *
  generalize ou ii = z3 at *
  generalize sp ii = z4 at *
  obtain ⟨y0, hy0⟩ : ∃ y, y = min z1 (z0 + a2) := ⟨_, rfl⟩
  have q0 : e3.cell? ⟨g, ii * 5, none⟩ = some (.int .i64 z0) := (HGB3.out.cell _).trans x0
  have q1 : e3.cell? ⟨g, ii * 5 + 1, none⟩ = some (.int .i64 z1) := (HGB3.out.cell _).trans x1
  have f0 := HGB3.out.frozen (ii * 5)
  have hwa2 : IntKind.i64.wrap a2 = a2 := IntWalk.i64_in _ ⟨by omega, by omega⟩
  have hws2 : IntKind.i64.wrap (z0 + a2) = z0 + a2 := IntWalk.i64_in _ ⟨by omega, by omega⟩
  go_upto_region 9 with fail
  go_still_tail 18, (by kernel_rfl)
  change wpList _ _ _ _ _ e3.drew
  have q0' : e3.drew.cell? ⟨g, ii * 5, none⟩ = some (.int .i64 z0) := q0
  have f0' : e3.drew.frozen? ⟨g, ii * 5, none⟩ = false := f0
  go_upto_region 10 with fail
  rw [← hy0]
  have HBB3 := Lib.hid HB5.out
  clear HB5
  obtain ⟨e4, he4⟩ : ∃ zz, zz = (e3.setCell ⟨g, ii * 5, none⟩ (.int .i64 y0)).drew := ⟨_, rfl⟩
  have HGB4 : Hid (Blk e4 g 50 (cur.setIfInBounds (ii * 5) (.int .i64 y0))) := Lib.hid (he4 ▸ (HGB3.out.set_ (ii * 5) (.int .i64 y0)).drewN 1)
  have HD4 : Hid (Blk e4 db 26 #[.int .i64 cp, .int .i64 st, .int .i64 fl, .slice (some ⟨g, 0, none⟩) n cva]) := Lib.hid (he4 ▸ (HD3.out.far (p := ⟨g, ii * 5, none⟩) (show db ≠ g by omega) (.int .i64 y0)).drewN 1)
  have HROW4 : Hid (Rd e4 db A1 ((n + 1) * 2) (rsc (rb cp fl n lo hi dm ou sp))) := Lib.hid (he4 ▸ (HROW3.out.setCell (p := ⟨g, ii * 5, none⟩) (Nat.le_of_lt hgdb) (.int .i64 y0)).drew)
  have HBB4 : Hid (Below w.heap.size w e4) := Lib.hid (he4 ▸ (HBB3.out.setCell (p := ⟨g, ii * 5, none⟩) hdw3 (.int .i64 y0)).drew)
  rw [← he4]
  clear he4 HGB3 HD3 HROW3 HBB3 q0 q1 f0 q0' f0' hws2
  clear e3
  obtain ⟨y1, hy1⟩ : ∃ y, y = max y0 (z1 - a3) := ⟨_, rfl⟩
  have q0 : e4.cell? ⟨g, ii * 5, none⟩ = some (.int .i64 y0) := (HGB4.out.cell _).trans (set_at _ (by omega))
  have q1 : e4.cell? ⟨g, ii * 5 + 1, none⟩ = some (.int .i64 z1) := (HGB4.out.cell _).trans ((set_off _ (by omega)).trans x1)
  have f1 := HGB4.out.frozen (ii * 5 + 1)
  have hwa3 : IntKind.i64.wrap a3 = a3 := IntWalk.i64_in _ ⟨by omega, by omega⟩
  have hws3 : IntKind.i64.wrap (z1 - a3) = z1 - a3 := IntWalk.i64_in _ ⟨by omega, by omega⟩
  have HY0 := Lib.hid hy0
  clear hy0
  go_still_tail 18, (by kernel_rfl)
  change wpList _ _ _ _ _ e4.drew
  have q1' : e4.drew.cell? ⟨g, ii * 5 + 1, none⟩ = some (.int .i64 z1) := q1
  have f1' : e4.drew.frozen? ⟨g, ii * 5 + 1, none⟩ = false := f1
  go_upto_region 11 with fail
  rw [← hy1]
  obtain ⟨e5, he5⟩ : ∃ zz, zz = (e4.setCell ⟨g, ii * 5 + 1, none⟩ (.int .i64 y1)).drew := ⟨_, rfl⟩
  have HGB5 : Hid (Blk e5 g 50 ((cur.setIfInBounds (ii * 5) (.int .i64 y0)).setIfInBounds (ii * 5 + 1) (.int .i64 y1))) := Lib.hid (he5 ▸ (HGB4.out.set_ (ii * 5 + 1) (.int .i64 y1)).drewN 1)
  have HD5 : Hid (Blk e5 db 26 #[.int .i64 cp, .int .i64 st, .int .i64 fl, .slice (some ⟨g, 0, none⟩) n cva]) := Lib.hid (he5 ▸ (HD4.out.far (p := ⟨g, ii * 5 + 1, none⟩) (show db ≠ g by omega) (.int .i64 y1)).drewN 1)
  have HROW5 : Hid (Rd e5 db A1 ((n + 1) * 2) (rsc (rb cp fl n lo hi dm ou sp))) := Lib.hid (he5 ▸ (HROW4.out.setCell (p := ⟨g, ii * 5 + 1, none⟩) (Nat.le_of_lt hgdb) (.int .i64 y1)).drew)
  have HBB5 : Hid (Below w.heap.size w e5) := Lib.hid (he5 ▸ (HBB4.out.setCell (p := ⟨g, ii * 5 + 1, none⟩) hdw3 (.int .i64 y1)).drew)
  rw [← he5]
  clear he5 HGB4 HD4 HROW4 HBB4 q0 q1 f1 q1' f1' hws3
  clear e4
  have HY1 := Lib.hid hy1
  clear hy1
  obtain ⟨y2, hy2⟩ : ∃ y, y = max 0 (z2 - a4) := ⟨_, rfl⟩
  have q2 : e5.cell? ⟨g, ii * 5 + 2, none⟩ = some (.int .i64 z2) := (HGB5.out.cell _).trans ((set_off _ (by omega)).trans ((set_off _ (by omega)).trans x2))
  have f2 := HGB5.out.frozen (ii * 5 + 2)
  have hwa4 : IntKind.i64.wrap a4 = a4 := IntWalk.i64_in _ ⟨by omega, by omega⟩
  have hws4 : IntKind.i64.wrap (z2 - a4) = z2 - a4 := IntWalk.i64_in _ ⟨by omega, by omega⟩
  go_upto_region 12 with fail
  rw [← hy2]
  obtain ⟨e6, he6⟩ : ∃ zz, zz = (e5.setCell ⟨g, ii * 5 + 2, none⟩ (.int .i64 y2)) := ⟨_, rfl⟩
  have HGB6 : Hid (Blk e6 g 50 (((cur.setIfInBounds (ii * 5) (.int .i64 y0)).setIfInBounds (ii * 5 + 1) (.int .i64 y1)).setIfInBounds (ii * 5 + 2) (.int .i64 y2))) := Lib.hid (he6 ▸ (HGB5.out.set_ (ii * 5 + 2) (.int .i64 y2)))
  have HD6 : Hid (Blk e6 db 26 #[.int .i64 cp, .int .i64 st, .int .i64 fl, .slice (some ⟨g, 0, none⟩) n cva]) := Lib.hid (he6 ▸ (HD5.out.far (p := ⟨g, ii * 5 + 2, none⟩) (show db ≠ g by omega) (.int .i64 y2)))
  have HROW6 : Hid (Rd e6 db A1 ((n + 1) * 2) (rsc (rb cp fl n lo hi dm ou sp))) := Lib.hid (he6 ▸ (HROW5.out.setCell (p := ⟨g, ii * 5 + 2, none⟩) (Nat.le_of_lt hgdb) (.int .i64 y2)))
  have HBB6 : Hid (Below w.heap.size w e6) := Lib.hid (he6 ▸ (HBB5.out.setCell (p := ⟨g, ii * 5 + 2, none⟩) hdw3 (.int .i64 y2)))
  rw [← he6]
  clear he6 HGB5 HD5 HROW5 HBB5 q2 f2 hws4
  clear e5
  have HY2 := Lib.hid hy2
  clear hy2
  obtain ⟨y3, hy3⟩ : ∃ y, y = min 1099511627776 (z3 + a5) := ⟨_, rfl⟩
  have q3 : e6.cell? ⟨g, ii * 5 + 3, none⟩ = some (.int .i64 z3) := (HGB6.out.cell _).trans ((set_off _ (by omega)).trans ((set_off _ (by omega)).trans ((set_off _ (by omega)).trans x3)))
  have f3 := HGB6.out.frozen (ii * 5 + 3)
  have hwa5 : IntKind.i64.wrap a5 = a5 := IntWalk.i64_in _ ⟨by omega, by omega⟩
  have hws5 : IntKind.i64.wrap (z3 + a5) = z3 + a5 := IntWalk.i64_in _ ⟨by omega, by omega⟩
  go_upto_region 13 with fail
  rw [← hy3]
  obtain ⟨e7, he7⟩ : ∃ zz, zz = (e6.setCell ⟨g, ii * 5 + 3, none⟩ (.int .i64 y3)) := ⟨_, rfl⟩
  have HGB7 : Hid (Blk e7 g 50 ((((cur.setIfInBounds (ii * 5) (.int .i64 y0)).setIfInBounds (ii * 5 + 1) (.int .i64 y1)).setIfInBounds (ii * 5 + 2) (.int .i64 y2)).setIfInBounds (ii * 5 + 3) (.int .i64 y3))) := Lib.hid (he7 ▸ (HGB6.out.set_ (ii * 5 + 3) (.int .i64 y3)))
  have HD7 : Hid (Blk e7 db 26 #[.int .i64 cp, .int .i64 st, .int .i64 fl, .slice (some ⟨g, 0, none⟩) n cva]) := Lib.hid (he7 ▸ (HD6.out.far (p := ⟨g, ii * 5 + 3, none⟩) (show db ≠ g by omega) (.int .i64 y3)))
  have HROW7 : Hid (Rd e7 db A1 ((n + 1) * 2) (rsc (rb cp fl n lo hi dm ou sp))) := Lib.hid (he7 ▸ (HROW6.out.setCell (p := ⟨g, ii * 5 + 3, none⟩) (Nat.le_of_lt hgdb) (.int .i64 y3)))
  have HBB7 : Hid (Below w.heap.size w e7) := Lib.hid (he7 ▸ (HBB6.out.setCell (p := ⟨g, ii * 5 + 3, none⟩) hdw3 (.int .i64 y3)))
  rw [← he7]
  clear he7 HGB6 HD6 HROW6 HBB6 q3 f3 hws5
  clear e6
  have HY3 := Lib.hid hy3
  clear hy3
  obtain ⟨y4, hy4⟩ : ∃ y, y = min 1099511627776 (z4 + a6) := ⟨_, rfl⟩
  have q4 : e7.cell? ⟨g, ii * 5 + 4, none⟩ = some (.int .i64 z4) := (HGB7.out.cell _).trans ((set_off _ (by omega)).trans ((set_off _ (by omega)).trans ((set_off _ (by omega)).trans ((set_off _ (by omega)).trans x4))))
  have f4 := HGB7.out.frozen (ii * 5 + 4)
  have hwa6 : IntKind.i64.wrap a6 = a6 := IntWalk.i64_in _ ⟨by omega, by omega⟩
  have hws6 : IntKind.i64.wrap (z4 + a6) = z4 + a6 := IntWalk.i64_in _ ⟨by omega, by omega⟩
  go_upto_region 14 with fail
  rw [← hy4]
  obtain ⟨e8, he8⟩ : ∃ zz, zz = (e7.setCell ⟨g, ii * 5 + 4, none⟩ (.int .i64 y4)) := ⟨_, rfl⟩
  have HGB8 : Hid (Blk e8 g 50 (((((cur.setIfInBounds (ii * 5) (.int .i64 y0)).setIfInBounds (ii * 5 + 1) (.int .i64 y1)).setIfInBounds (ii * 5 + 2) (.int .i64 y2)).setIfInBounds (ii * 5 + 3) (.int .i64 y3)).setIfInBounds (ii * 5 + 4) (.int .i64 y4))) := Lib.hid (he8 ▸ (HGB7.out.set_ (ii * 5 + 4) (.int .i64 y4)))
  have HD8 : Hid (Blk e8 db 26 #[.int .i64 cp, .int .i64 st, .int .i64 fl, .slice (some ⟨g, 0, none⟩) n cva]) := Lib.hid (he8 ▸ (HD7.out.far (p := ⟨g, ii * 5 + 4, none⟩) (show db ≠ g by omega) (.int .i64 y4)))
  have HROW8 : Hid (Rd e8 db A1 ((n + 1) * 2) (rsc (rb cp fl n lo hi dm ou sp))) := Lib.hid (he8 ▸ (HROW7.out.setCell (p := ⟨g, ii * 5 + 4, none⟩) (Nat.le_of_lt hgdb) (.int .i64 y4)))
  have HBB8 : Hid (Below w.heap.size w e8) := Lib.hid (he8 ▸ (HBB7.out.setCell (p := ⟨g, ii * 5 + 4, none⟩) hdw3 (.int .i64 y4)))
  rw [← he8]
  clear he8 HGB7 HD7 HROW7 HBB7 q4 f4 hws6
  clear e7
  have hw2 := HW2.out
  rw [← HY0.out, ← HY1.out, ← HY2.out, ← HY3.out, ← hy4] at hw2
  obtain ⟨hck, hsub⟩ := hw2
  have HSUB := Lib.hid hsub
  have HRB := Lib.hid (Robust_12 (PA := some ⟨g, 0, none⟩) (n := n) (pc := cva) (cp := cp) (st := st) (fl := fl) e8.heap.size e8 (by omega) (Nat.le_refl _) (RowP.rd (base := 0) (.inr ⟨g, _, rfl, Nat.zero_le _, HGB8.out, by simpa using hsz, HUP.out y0 y1 y2 y3 y4⟩)))
  rw [hck] at HRB
  clear hsub hck hy4 HY0 HY1 HY2 HY3 HW2 HUP x0 x1 x2 x3 x4 HGB8 hwa1 hwa2 hwa3 hwa4 hwa5 hwa6 hp1 hp2 hp3 hp4 k1 k2 k3 k4 k5 k6 hsz hin hin' htm hwii hn00
  generalize rb cp fl n (upd lo ii y0) (upd hi ii y1) (upd dm ii y2) (upd ou ii y3) (upd sp ii y4) = G at HRB HSUB
  generalize rb cp fl n lo hi dm ou sp = F at *
  have c0 : e8.cell? ⟨db, 0, none⟩ = some (.int .i64 cp) := HD8.out.cell 0
  have c1 : e8.cell? ⟨db, 1, none⟩ = some (.int .i64 st) := HD8.out.cell 1
  have c2 : e8.cell? ⟨db, 2, none⟩ = some (.int .i64 fl) := HD8.out.cell 2
  have c3 : e8.cell? ⟨db, 3, none⟩ = some (.slice (some ⟨g, 0, none⟩) n cva) := HD8.out.cell 3
  go_wp2_with fail
  refine HRB.out.mono ?_
  rintro e u1 ⟨⟨A2, p1, m2, rfl, hz2, _⟩, hb⟩
  obtain ⟨rfl, rfl, hrow2⟩ := hz2 rfl
  have HA1 := Lib.hid ((HROW8.out.below (hb.mono (by have := HD8.out.lt; omega))).mono (show db ≤ u1.heap.size by have := HD8.out.lt; have := hb.size; omega))
  have HA2 := Lib.hid hrow2
  have HBU := Lib.hid (HBB8.out.trans (hb.mono HBB8.out.size))
  clear hb hz2 hrow2 HRB HD8 HROW8 HBB8 c0 c1 c2 c3
  clear e8
  go_wp2_with fail
  go_loopw [21, 137] (fun _ i wr => ∃ k : Nat, k ≤ n + 1 ∧ i = .int .i64 k ∧ ∃ m, wr = u1.drewN m) (fun _ i _ => n + 1 - (intOf i).toNat)
  case atStart => exact ⟨0, Nat.zero_le _, rfl, 0, rfl⟩
  case round =>
    obtain ⟨k, hk, rfl, m, rfl⟩ := hrel
    have HQ : Hid (∀ r, ∃ t, (u1.drewN m).drewN r = u1.drewN t) := Lib.hid fun r => ⟨m + r, by simp [World.drewN_drewN]⟩
    have HX1 := Lib.hid (Rd.drewN HA1.out m)
    have HX2 := Lib.hid (Rd.drewN HA2.out m)
    have HBm : Hid (∀ W, (∃ t, W = u1.drewN t) → Below w.heap.size w W) := Lib.hid fun W h => below_quiet HBU.out h
    generalize u1.drewN m = v1 at HQ HX1 HX2 ⊢
    by_cases hlt : k < n + 1
    · have hk1 : (k : Int) < (n : Int) + 1 := by omega
      have hkn : k ≤ n := by omega
      have hkn' : (k : Int) ≤ n := by omega
      obtain ⟨b1, o1, rfl, _, p0, p1⟩ := rng_at HX1.out hlt
      obtain ⟨b2, o2, rfl, _, r0, r1⟩ := rng_at HX2.out hlt
      have HSK := Lib.hid (HSUB.out k)
      generalize F k = f at p0 p1 HSK
      generalize G k = g' at r0 r1 HSK
      obtain ⟨f0, f1⟩ := f
      obtain ⟨g0, g1⟩ := g'
      simp only at p0 p1 r0 r1
      by_cases hff : f0 ≤ f1
      · have hff' := HSK.out hff
        simp only at hff'
        have d0 : decide (f0 ≤ f1) = true := by simpa using hff
        have d1 : decide (f0 < g0) = false := by simp; omega
        have d2 : decide (g1 < f1) = false := by simp; omega
        clear hff hff'
        go_upto_region 20 with fail
        go_quiet (fail)
        go_wp2_with fail
        go_roundw
        case rel => exact ⟨k + 1, by omega, by go_num, HQ.out _⟩
        case measure => simp [intOf]; omega
      · have d0 : decide (f0 ≤ f1) = false := by simpa using hff
        clear hff
        go_upto_region 20 with fail
        go_quiet (fail)
        go_wp2_with fail
        go_roundw
        case rel => exact ⟨k + 1, by omega, by go_num, HQ.out _⟩
        case measure => simp [intOf]; omega
    · have hkn : k = n + 1 := by omega
      have hk2 : ¬ (k : Int) < (n : Int) + 1 := by omega
      clear hkn
      go_wp2_with fail
      go_ret
      exact ⟨rfl, HBm.out _ (HQ.out 0)⟩
end Go.Proofs.Ytnmocdfogdcliaa
