/- Contracts of both functions Spoil. -/
import Derived.Test.YtnmocdfogdcliaaProgA
import Derived.Test.YtnmocdfogdcliaaProgB
namespace Go.Proofs.Ytnmocdfogdcliaa
open Go.RowKit

/-- what Spoil says -/
def spE (cp st fl : Int) (n : Nat) (lo hi dm ou sp : Nat → Int) (t x r : Int) : Int :=
  if askM cp st fl n lo hi dm ou sp t x (ri3 0 r 1099511627776) = 0 then (if (ri3 (rb cp fl n lo hi dm ou sp t.toNat).1 x (rb cp fl n lo hi dm ou sp t.toNat).2 || !alw dm ou t.toNat x r) = true then 390 else 0) else askM cp st fl n lo hi dm ou sp t x (ri3 0 r 1099511627776)
/-- does the least inflow keep the stores robust? -/
def spK (cp fl : Int) (n : Nat) (lo hi dm ou sp : Nat → Int) (k : Nat) (x r : Int) : Bool :=
  nxO cp sp k x r (lo k) && ri3 (rb cp fl n lo hi dm ou sp (k + 1)).1 (nxN cp x r (lo k)) (rb cp fl n lo hi dm ou sp (k + 1)).2
def spV (cp st fl : Int) (n : Nat) (lo hi dm ou sp : Nat → Int) (t x r : Int) : Int :=
  if spE cp st fl n lo hi dm ou sp t x r = 0 then (if spK cp fl n lo hi dm ou sp t.toNat x r = true then hi t.toNat else lo t.toNat) else 0

set_option maxRecDepth 100000 in
set_option maxHeartbeats 8000000 in
theorem Spoil_21 {PA : Option Addr} {n pc : Nat} {cp st fl : Int} {lo hi dm ou sp : Nat → Int} (B : Nat) (t x r : Int) (w : World) (hn : n ≤ 9223372036854775807) (hB : B ≤ w.heap.size) (hr : Rd w B PA (n * 5) (psc lo hi dm ou sp)) :
    Calls Try.prog 21 #[(.agg #[.int .i64 cp, .int .i64 st, .int .i64 fl, .slice PA n pc]), .int .i64 t, .int .i64 x, .int .i64 r] w fun e w' => e = .returned (.tuple #[.int .i64 (spV cp st fl n lo hi dm ou sp t x r), .int .i64 (spE cp st fl n lo hi dm ou sp t x r)]) ∧ Below w.heap.size w w' := by
  obtain ⟨w0, hw0⟩ : ∃ zz, zz = w.alloc (.cells #[.int .i64 cp, .int .i64 st, .int .i64 fl, .slice PA n pc] 26) := ⟨_, rfl⟩
  have HK0 : Hid (Blk w0 w.heap.size 26 #[.int .i64 cp, .int .i64 st, .int .i64 fl, .slice PA n pc]) := Lib.hid (hw0 ▸ Blk.new _ _ _)
  have HB0 : Hid (Below w.heap.size w w0) := Lib.hid (hw0 ▸ below_alloc _ _)
  have HW := Lib.hid hw0
  have HRD := Lib.hid hr
  have hrn := rd_new w0 #[.int .i64 r] 3 (fun j => .int .i64 ([r].getD j 0)) (fun j hj => by
    match j, hj with
    | 0, _ => rfl)
  have HAK0 := asked_37 (PA := PA) (pc := pc) (cp := cp) (st := st) (fl := fl) B t x (some ⟨w0.heap.size, 0, none⟩) 1 1 (fun j => [r].getD j 0) (w0.alloc (.cells #[.int .i64 r] 3)) hn (by omega) (by have := HB0.out.size; simp; omega) ((hr.below (HB0.out.mono hB)).alloc (by have := HB0.out.size; omega) _) (by rw [World.size_alloc]; exact hrn)
  rw [show mrB (fun j => [r].getD j 0) 1 = ri3 0 r 1099511627776 by simp [mrB]] at HAK0
  have HAK : Hid (Calls Try.prog 37 #[(.agg #[.int .i64 cp, .int .i64 st, .int .i64 fl, .slice PA n pc]), .int .i64 t, .int .i64 x, .slice (some ⟨w0.heap.size, 0, none⟩) 1 1] (w0.alloc (.cells #[.int .i64 r] 3)) fun e w' => e = .returned (.int .i64 (askM cp st fl n lo hi dm ou sp t x (ri3 0 r 1099511627776))) ∧ Below w0.heap.size w0 w') := Lib.hid (HAK0.mono fun e w' h => ⟨h.1, (below_alloc w0 _).trans (h.2.mono (by simp))⟩)
  have HSO : Hid ((chkE cp st fl n lo hi dm ou sp) = 0 → ∀ W, Below w.heap.size w W → Calls Try.prog 33 #[(.agg #[.int .i64 cp, .int .i64 st, .int .i64 fl, .slice PA n pc])] W fun e w' => (∃ A1 A2, e = .returned (.agg #[.int .i64 cp, .int .i64 st, .int .i64 fl, .slice PA n pc, .slice A1 (n + 1) (n + 1), .slice A2 n n]) ∧ Rd w' w'.heap.size A1 ((n + 1) * 2) (rsc (rb cp fl n lo hi dm ou sp)) ∧ Rd w' w'.heap.size A2 (n * 2) (rsc (rsr cp fl n lo hi dm ou sp))) ∧ Below W.heap.size W w') :=
    Lib.hid fun h W hW => solve_33 B W (good_of h) (by have := hW.size; omega) (hr.below (hW.mono hB))
  clear hw0 hr hrn HAK0
  have c0 : w0.cell? ⟨w.heap.size, 0, none⟩ = some (.int .i64 cp) := HK0.out.cell 0
  have c1 : w0.cell? ⟨w.heap.size, 1, none⟩ = some (.int .i64 st) := HK0.out.cell 1
  have c2 : w0.cell? ⟨w.heap.size, 2, none⟩ = some (.int .i64 fl) := HK0.out.cell 2
  have c3 : w0.cell? ⟨w.heap.size, 3, none⟩ = some (.slice PA n pc) := HK0.out.cell 3
  have HA0 : Hid (askM cp st fl n lo hi dm ou sp t x (ri3 0 r 1099511627776) = 0 → ri3 0 r 1099511627776 = true ∧ (chkE cp st fl n lo hi dm ou sp) = 0 ∧ (0 ≤ t ∧ t < n) ∧ 0 ≤ x ∧ x ≤ cp) := Lib.hid askM_zero
  have HG : Hid ((chkE cp st fl n lo hi dm ou sp) = 0 → Good cp fl n lo hi dm ou sp) := Lib.hid good_of
  have HE : Hid (spE cp st fl n lo hi dm ou sp t x r = if askM cp st fl n lo hi dm ou sp t x (ri3 0 r 1099511627776) = 0 then (if (ri3 (rb cp fl n lo hi dm ou sp t.toNat).1 x (rb cp fl n lo hi dm ou sp t.toNat).2 || !alw dm ou t.toNat x r) = true then 390 else 0) else askM cp st fl n lo hi dm ou sp t x (ri3 0 r 1099511627776)) := Lib.hid rfl
  have HV : Hid (spV cp st fl n lo hi dm ou sp t x r = if spE cp st fl n lo hi dm ou sp t x r = 0 then (if spK cp fl n lo hi dm ou sp t.toNat x r = true then hi t.toNat else lo t.toNat) else 0) := Lib.hid rfl
  generalize spV cp st fl n lo hi dm ou sp t x r = V at HV ⊢
  generalize spE cp st fl n lo hi dm ou sp t x r = E at HV HE ⊢
  generalize askM cp st fl n lo hi dm ou sp t x (ri3 0 r 1099511627776) = AE at HE HAK HA0
  go_enter Try.func21, Try.ntmps21
  go_upto_region 1 with fail
  rw [← HW.out]
  clear HW
  go_wp2_with fail
  refine HAK.out.mono ?_
  rintro e w1 ⟨rfl, hb⟩
  have HB1 := Lib.hid (HB0.out.trans (hb.mono HB0.out.size))
  have HK1 := Lib.hid (HK0.out.below hb HK0.out.lt)
  clear hb HK0 HB0 HAK c0 c1 c2 c3
  by_cases h1 : ¬ AE = 0
  · have HE2 := Lib.hid (HE.out.trans (if_neg h1))
    have HV2 := Lib.hid (HV.out.trans (if_neg (by rw [HE2.out]; exact h1)))
    have h1d : (AE == 0) = false := by simpa using h1
    go_wp2_with fail
    refine bodyPost_ret (results_tmp2 rfl _ _ _) rfl ?_
    exact ⟨ret_val (by rw [HV2.out, HE2.out]; rfl), HB1.out⟩
  have h1 : AE = 0 := by omega
  subst h1
  obtain ⟨a0, a1, ⟨a2, a3⟩, a4, a5⟩ := HA0.out rfl
  rw [ri3_iff] at a0
  have HGG := Lib.hid (HG.out a1)
  have HE2 := Lib.hid (HE.out.trans (if_pos rfl))
  have HS := Lib.hid (HSO.out a1 _ HB1.out)
  clear HE HG HA0 HSO a1
  obtain ⟨k, rfl⟩ : ∃ k : Nat, t = k := ⟨t.toNat, by omega⟩
  rw [Int.toNat_natCast] at HE2 HV
  have c0 : w1.cell? ⟨w.heap.size, 0, none⟩ = some (.int .i64 cp) := HK1.out.cell 0
  have c1 : w1.cell? ⟨w.heap.size, 1, none⟩ = some (.int .i64 st) := HK1.out.cell 1
  have c2 : w1.cell? ⟨w.heap.size, 2, none⟩ = some (.int .i64 fl) := HK1.out.cell 2
  have c3 : w1.cell? ⟨w.heap.size, 3, none⟩ = some (.slice PA n pc) := HK1.out.cell 3
  go_upto_region 4 with fail
  go_wp2_with fail
  refine HS.out.mono ?_
  rintro e w2 ⟨⟨A1, A2, rfl, hr1, hr2⟩, hb⟩
  have HB2 := Lib.hid (HB1.out.trans (hb.mono HB1.out.size))
  have HK2 := Lib.hid (HK1.out.below hb HK1.out.lt)
  have HR1 := Lib.hid hr1
  clear hb hr1 hr2 HK1 HB1 HS c0 c1 c2 c3
  go_upto_region 5 with fail
  obtain ⟨w3, hw3⟩ : ∃ zz, zz = w2.alloc (.cells #[.int .i64 cp, .int .i64 st, .int .i64 fl, .slice PA n pc, .slice A1 (n + 1) (n + 1), .slice A2 n n] 66) := ⟨_, rfl⟩
  have HX3 : Hid (Blk w3 w2.heap.size 66 #[.int .i64 cp, .int .i64 st, .int .i64 fl, .slice PA n pc, .slice A1 (n + 1) (n + 1), .slice A2 n n]) := Lib.hid (hw3 ▸ Blk.new _ _ _)
  have HB3 : Hid (Below w.heap.size w w3) := Lib.hid (hw3 ▸ HB2.out.alloc HB2.out.size _)
  have HK3 : Hid (Blk w3 w.heap.size 26 #[.int .i64 cp, .int .i64 st, .int .i64 fl, .slice PA n pc]) := Lib.hid (hw3 ▸ HK2.out.alloc _)
  have HR13 : Hid (Rd w3 w3.heap.size A1 ((n + 1) * 2) (rsc (rb cp fl n lo hi dm ou sp))) := Lib.hid (hw3 ▸ (HR1.out.alloc (Nat.le_refl _) _).mono (by simp))
  rw [← hw3]
  clear hw3 HB2 HR1 HK2
  generalize w2.heap.size = xb at *
  clear w2
  have hkn : k < n := by omega
  obtain ⟨b1, o1, rfl, _, p0, p1⟩ := rng_at HR13.out (show k < n + 1 by omega)
  have x4 : w3.cell? ⟨xb, 4, none⟩ = some (.slice (some ⟨b1, o1, none⟩) (n + 1) (n + 1)) := HX3.out.cell 4
  have hk1 : (k : Int) < (n : Int) + 1 := by omega
  have hk2 : k < n + 1 := by omega
  generalize rb cp fl n lo hi dm ou sp k = R at HE2 p0 p1
  go_wp2_with fail
  refine (has_38 _ _ _ _).mono ?_
  rintro e w4 ⟨rfl, hb⟩
  have HB4 := Lib.hid (HB3.out.trans (hb.mono HB3.out.size))
  have HX4 := Lib.hid (HX3.out.below hb HX3.out.lt)
  have HK4 := Lib.hid (HK3.out.below hb HK3.out.lt)
  have HR14 := Lib.hid (HR13.out.below hb)
  have hz34 := hb.size
  clear hb HR13 HX3 HB3 HK3 p0 p1 x4
  cases h2 : ri3 R.1 x R.2
  case true =>
    have HE3 : Hid (E = 390) := Lib.hid (by rw [HE2.out, h2]; rfl)
    have HV3 := Lib.hid (HV.out.trans (if_neg (by rw [HE3.out]; decide)))
    go_wp2_with fail
    refine bodyPost_ret (results_tmp2 rfl _ _ _) rfl ?_
    exact ⟨ret_val (by rw [HV3.out, HE3.out]; rfl), HB4.out⟩
  have HE4 : Hid (E = if (!alw dm ou k x r) = true then 390 else 0) := Lib.hid (by rw [HE2.out, h2, Bool.false_or])
  clear HE2 h2
  have c0 : w4.cell? ⟨w.heap.size, 0, none⟩ = some (.int .i64 cp) := HK4.out.cell 0
  have c1 : w4.cell? ⟨w.heap.size, 1, none⟩ = some (.int .i64 st) := HK4.out.cell 1
  have c2 : w4.cell? ⟨w.heap.size, 2, none⟩ = some (.int .i64 fl) := HK4.out.cell 2
  have c3 : w4.cell? ⟨w.heap.size, 3, none⟩ = some (.slice PA n pc) := HK4.out.cell 3
  have HAL := Lib.hid (allowed_41 (PA := PA) (pc := pc) (cp := cp) (st := st) (fl := fl) (lo := lo) (hi := hi) (dm := dm) (ou := ou) (sp := sp) B k x r w4 hkn (by have := HB4.out.size; omega) (HRD.out.below (HB4.out.mono hB)))
  generalize alw dm ou k x r = AL at HAL HE4
  go_wp2_with fail
  refine HAL.out.mono ?_
  rintro e w5 ⟨rfl, hb⟩
  have HB5 := Lib.hid (HB4.out.trans (hb.mono HB4.out.size))
  have HX5 := Lib.hid (HX4.out.below hb HX4.out.lt)
  have HK5 := Lib.hid (HK4.out.below hb HK4.out.lt)
  have HR15 := Lib.hid (HR14.out.below (hb.mono hz34))
  have hz45 := hb.size
  clear hb HR14 HX4 HB4 HK4 HAL c0 c1 c2 c3
  cases AL
  · have HE3 : Hid (E = 390) := Lib.hid HE4.out
    have HV3 := Lib.hid (HV.out.trans (if_neg (by rw [HE3.out]; decide)))
    go_wp2_with fail
    refine bodyPost_ret (results_tmp2 rfl _ _ _) rfl ?_
    exact ⟨ret_val (by rw [HV3.out, HE3.out]; rfl), HB5.out⟩
  have HE3 : Hid (E = 0) := Lib.hid HE4.out
  have HV3 : Hid (V = if spK cp fl n lo hi dm ou sp k x r = true then hi k else lo k) := Lib.hid (HV.out.trans (if_pos HE3.out))
  clear HV HE4
  have hcp := HGG.out.2.1
  have hlo := (HGG.out.2.2.2 k hkn).1
  have HKD : Hid (spK cp fl n lo hi dm ou sp k x r = (nxO cp sp k x r (lo k) && ri3 (rb cp fl n lo hi dm ou sp (k + 1)).1 (nxN cp x r (lo k)) (rb cp fl n lo hi dm ou sp (k + 1)).2)) := Lib.hid rfl
  generalize spK cp fl n lo hi dm ou sp k x r = KB at HV3 HKD
  have HAF := Lib.hid (after_42 (PA := PA) (pc := pc) (cp := cp) (st := st) (fl := fl) (lo := lo) (hi := hi) (dm := dm) (ou := ou) (sp := sp) B k x r (lo k) w5 hkn hcp (by omega) (by omega) a0 (by have := HB5.out.size; omega) (HRD.out.below (HB5.out.mono hB)))
  obtain ⟨b, o, rfl, _, q0, q1, _, _, _⟩ := per_at (HRD.out.below (HB5.out.mono hB)) hkn
  have x3 : w5.cell? ⟨xb, 3, none⟩ = some (.slice (some ⟨b, o, none⟩) n pc) := HX5.out.cell 3
  have x3' : w5.cell? ⟨xb, 0 + 3, none⟩ = some (.slice (some ⟨b, o, none⟩) n pc) := HX5.out.cell 3
  have x3'' : w5.cell? ⟨xb, 2 + 1, none⟩ = some (.slice (some ⟨b, o, none⟩) n pc) := HX5.out.cell 3
  have c0 : w5.cell? ⟨w.heap.size, 0, none⟩ = some (.int .i64 cp) := HK5.out.cell 0
  have c1 : w5.cell? ⟨w.heap.size, 1, none⟩ = some (.int .i64 st) := HK5.out.cell 1
  have c2 : w5.cell? ⟨w.heap.size, 2, none⟩ = some (.int .i64 fl) := HK5.out.cell 2
  have c3 : w5.cell? ⟨w.heap.size, 3, none⟩ = some (.slice (some ⟨b, o, none⟩) n pc) := HK5.out.cell 3
  have hkn' : (k : Int) < n := by omega
  generalize nxN cp x r (lo k) = N at HKD HAF
  generalize nxS cp x r (lo k) = S at HAF
  generalize nxO cp sp k x r (lo k) = O at HAF HKD
  generalize lo k = z0 at *
  unfold nx3 at HAF
  cases O
  · simp only [Bool.false_eq_true, if_false] at HAF
    have HV4 : Hid (V = z0) := Lib.hid (by rw [HV3.out, HKD.out]; rfl)
    go_wp2_with fail
    refine HAF.out.mono ?_
    rintro e w6 ⟨rfl, hb⟩
    have HB6 := Lib.hid (HB5.out.trans (hb.mono HB5.out.size))
    clear hb
    go_wp2_with fail
    refine bodyPost_ret (results_tmp2 rfl _ _ _) rfl ?_
    exact ⟨ret_val (by rw [HV4.out, HE3.out]; rfl), HB6.out⟩
  · simp only [if_true] at HAF
    rw [Bool.true_and] at HKD
    go_wp2_with fail
    refine HAF.out.mono ?_
    rintro e w6 ⟨rfl, hb⟩
    have HB6 := Lib.hid (HB5.out.trans (hb.mono HB5.out.size))
    have HX6 := Lib.hid (HX5.out.below hb HX5.out.lt)
    have HR16 := Lib.hid (HR15.out.below (hb.mono (by omega)))
    clear hb HX5 HB5 HK5 HR15 x3 x3' x3'' c0 c1 c2 c3 q0 q1
    obtain ⟨b1', o1', e', _, r0, r1⟩ := rng_at HR16.out (show k + 1 < n + 1 by omega)
    injection e' with e'
    injection e' with e1 e2
    subst e1 e2
    generalize rb cp fl n lo hi dm ou sp (k + 1) = R1 at HKD r0 r1
    obtain ⟨m, hm⟩ : ∃ m : Nat, m = k + 1 := ⟨_, rfl⟩
    rw [← hm] at r0 r1
    have hwm : IntKind.i64.wrap ((k : Int) + 1) = (m : Int) := by rw [IntWalk.i64_in _ ⟨by have := HGG.out.1; omega, by have := HGG.out.1; omega⟩, hm]; rfl
    have hm1 : (m : Int) < (n : Int) + 1 := by omega
    have hm2 : m < n + 1 := by omega
    clear hm
    have x4 : w6.cell? ⟨xb, 4, none⟩ = some (.slice (some ⟨b1, o1, none⟩) (n + 1) (n + 1)) := HX6.out.cell 4
    go_wp2_with fail
    refine (has_38 _ _ _ _).mono ?_
    rintro e w7 ⟨rfl, hb⟩
    have HB7 := Lib.hid (HB6.out.trans (hb.mono HB6.out.size))
    have HX7 := Lib.hid (HX6.out.below hb HX6.out.lt)
    clear hb HX6 HB6 HR16 r0 r1 x4
    cases h7 : ri3 R1.1 N R1.2
    · have HV4 : Hid (V = z0) := Lib.hid (by rw [HV3.out, HKD.out, h7]; rfl)
      go_wp2_with fail
      refine bodyPost_ret (results_tmp2 rfl _ _ _) rfl ?_
      exact ⟨ret_val (by rw [HV4.out, HE3.out]; rfl), HB7.out⟩
    · have HV4 : Hid (V = hi k) := Lib.hid (by rw [HV3.out, HKD.out, h7]; rfl)
      have x3 : w7.cell? ⟨xb, 3, none⟩ = some (.slice (some ⟨b, o, none⟩) n pc) := HX7.out.cell 3
      have x3' : w7.cell? ⟨xb, 0 + 3, none⟩ = some (.slice (some ⟨b, o, none⟩) n pc) := HX7.out.cell 3
      have x3'' : w7.cell? ⟨xb, 2 + 1, none⟩ = some (.slice (some ⟨b, o, none⟩) n pc) := HX7.out.cell 3
      obtain ⟨b', o', e', _, q0, q1, _, _, _⟩ := per_at (HRD.out.below (HB7.out.mono hB)) hkn
      injection e' with e'
      injection e' with e1 e2
      subst e1 e2
      go_wp2_with fail
      refine bodyPost_ret (results_tmp2 rfl _ _ _) rfl ?_
      exact ⟨ret_val (by rw [HV4.out, HE3.out]; rfl), HB7.out⟩
end Go.Proofs.Ytnmocdfogdcliaa
