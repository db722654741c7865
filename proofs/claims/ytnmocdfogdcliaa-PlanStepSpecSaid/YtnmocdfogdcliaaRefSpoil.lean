/- Contract of the reference's Spoil. -/
import Derived.Test.YtnmocdfogdcliaaSpoil
namespace Go.Proofs.Ytnmocdfogdcliaa
open Go.RowKit

set_option maxRecDepth 100000 in
set_option maxHeartbeats 8000000 in
theorem Spoil_22 {PA : Option Addr} {n pc : Nat} {cp st fl : Int} {lo hi dm ou sp : Nat → Int} (B : Nat) (t x r : Int) (w : World) (hn : n ≤ 9223372036854775807) (hB : B ≤ w.heap.size) (hr : Rd w B PA (n * 5) (psc lo hi dm ou sp)) :
    Calls Try.prog 22 #[(.agg #[.int .i64 cp, .int .i64 st, .int .i64 fl, .slice PA n pc]), .int .i64 t, .int .i64 x, .int .i64 r] w fun e w' => e = .returned (.tuple #[.int .i64 (spV cp st fl n lo hi dm ou sp t x r), .int .i64 (spE cp st fl n lo hi dm ou sp t x r)]) ∧ Below w.heap.size w w' := by
  obtain ⟨w0, hw0⟩ : ∃ zz, zz = w.alloc (.cells #[.int .i64 cp, .int .i64 st, .int .i64 fl, .slice PA n pc] 26) := ⟨_, rfl⟩
  have HK0 : Hid (Blk w0 w.heap.size 26 #[.int .i64 cp, .int .i64 st, .int .i64 fl, .slice PA n pc]) := Lib.hid (hw0 ▸ Blk.new _ _ _)
  have HB0 : Hid (Below w.heap.size w w0) := Lib.hid (hw0 ▸ below_alloc _ _)
  have HW := Lib.hid hw0
  have HRD := Lib.hid hr
  have HAK := Lib.hid (asked_39 (PA := PA) (pc := pc) (cp := cp) (st := st) (fl := fl) B t x w0 hn (by have := HB0.out.size; omega) (hr.below (HB0.out.mono hB)))
  have HRB : Hid (∀ W, Below w.heap.size w W → Calls Try.prog 13 #[(.agg #[.int .i64 cp, .int .i64 st, .int .i64 fl, .slice PA n pc])] W fun e w' => RobR (chkE cp st fl n lo hi dm ou sp) n (rb cp fl n lo hi dm ou sp) e w' ∧ Below W.heap.size W w') := Lib.hid fun W h => Robust_13 B W hn (by have := h.size; omega) (hr.below (h.mono hB))
  have HNX : Hid (∀ W y, Below w.heap.size w W → Calls Try.prog 20 #[(.agg #[.int .i64 cp, .int .i64 st, .int .i64 fl, .slice PA n pc]), .int .i64 t, .int .i64 x, .int .i64 r, .int .i64 y] W fun e w' => e = .returned (nxV cp st fl n lo hi dm ou sp t x r y) ∧ Below W.heap.size W w') := Lib.hid fun W y h => Next_20 B t x r y W hn (by have := h.size; omega) (hr.below (h.mono hB))
  clear hw0 hr
  have c0 : w0.cell? ⟨w.heap.size, 0, none⟩ = some (.int .i64 cp) := HK0.out.cell 0
  have c1 : w0.cell? ⟨w.heap.size, 1, none⟩ = some (.int .i64 st) := HK0.out.cell 1
  have c2 : w0.cell? ⟨w.heap.size, 2, none⟩ = some (.int .i64 fl) := HK0.out.cell 2
  have c3 : w0.cell? ⟨w.heap.size, 3, none⟩ = some (.slice PA n pc) := HK0.out.cell 3
  have HA0 : Hid (askE cp st fl n lo hi dm ou sp t x = 0 → (chkE cp st fl n lo hi dm ou sp) = 0 ∧ (0 ≤ t ∧ t < n) ∧ 0 ≤ x ∧ x ≤ cp) := Lib.hid ask_zero
  have HG : Hid ((chkE cp st fl n lo hi dm ou sp) = 0 → Good cp fl n lo hi dm ou sp) := Lib.hid good_of
  have HAM : Hid (∀ b, askM cp st fl n lo hi dm ou sp t x b = if askE cp st fl n lo hi dm ou sp t x = 0 then (if b = true then 0 else 1) else askE cp st fl n lo hi dm ou sp t x) := Lib.hid fun b => rfl
  have HE : Hid (spE cp st fl n lo hi dm ou sp t x r = if askM cp st fl n lo hi dm ou sp t x (ri3 0 r 1099511627776) = 0 then (if (ri3 (rb cp fl n lo hi dm ou sp t.toNat).1 x (rb cp fl n lo hi dm ou sp t.toNat).2 || !alw dm ou t.toNat x r) = true then 390 else 0) else askM cp st fl n lo hi dm ou sp t x (ri3 0 r 1099511627776)) := Lib.hid rfl
  have HV : Hid (spV cp st fl n lo hi dm ou sp t x r = if spE cp st fl n lo hi dm ou sp t x r = 0 then (if spK cp fl n lo hi dm ou sp t.toNat x r = true then hi t.toNat else lo t.toNat) else 0) := Lib.hid rfl
  have HNV : Hid (∀ y, nxV cp st fl n lo hi dm ou sp t x r y = .tuple (nx4 (decide (askM cp st fl n lo hi dm ou sp t x (ri3 0 r 1099511627776 && ri3 0 y 1099511627776) = 0) && (alw dm ou t.toNat x r && nxO cp sp t.toNat x r y)) (nxN cp x r y) (nxS cp x r y) (askM cp st fl n lo hi dm ou sp t x (ri3 0 r 1099511627776 && ri3 0 y 1099511627776)))) := Lib.hid fun y => rfl
  generalize spV cp st fl n lo hi dm ou sp t x r = V at HV ⊢
  generalize spE cp st fl n lo hi dm ou sp t x r = E at HV HE ⊢
  rw [HAM.out] at HE
  generalize askE cp st fl n lo hi dm ou sp t x = AE at HE HAK HA0 HAM
  go_enter Try.func22, Try.ntmps22
  go_upto_region 1 with fail
  rw [← HW.out]
  clear HW
  go_wp2_with fail
  refine HAK.out.mono ?_
  rintro e w1 ⟨rfl, hb⟩
  have HB1 := Lib.hid (HB0.out.trans (hb.mono HB0.out.size))
  have HK1 := Lib.hid (HK0.out.below hb HK0.out.lt)
  clear hb HK0 HB0 HAK c0 c1 c2 c3
  by_cases h1 : ¬ AE = 0
  · have HE2 : Hid (E = AE) := Lib.hid (by rw [HE.out, if_neg h1, if_neg h1])
    have HV2 := Lib.hid (HV.out.trans (if_neg (by rw [HE2.out]; exact h1)))
    have h1d : (AE == 0) = false := by simpa using h1
    go_wp2_with fail
    refine bodyPost_ret (results_tmp2 rfl _ _ _) rfl ?_
    exact ⟨ret_val (by rw [HV2.out, HE2.out]; rfl), HB1.out⟩
  have h1 : AE = 0 := by omega
  subst h1
  obtain ⟨a1, ⟨a2, a3⟩, a4, a5⟩ := HA0.out rfl
  have HGG := Lib.hid (HG.out a1)
  clear HG HA0
  obtain ⟨k, rfl⟩ : ∃ k : Nat, t = k := ⟨t.toNat, by omega⟩
  rw [Int.toNat_natCast] at HE HV
  go_wp2_with fail
  refine (within_36 _ _ _ _).mono ?_
  rintro e w' ⟨rfl, rfl⟩
  cases h2 : ri3 0 r 1099511627776
  · have HE3 : Hid (E = 1) := Lib.hid (by rw [HE.out, h2]; rfl)
    have HV3 := Lib.hid (HV.out.trans (if_neg (by rw [HE3.out]; decide)))
    go_wp2_with fail
    refine bodyPost_ret (results_tmp2 rfl _ _ _) rfl ?_
    exact ⟨ret_val (by rw [HV3.out, HE3.out]; rfl), HB1.out⟩
  have HE2 : Hid (E = if (ri3 (rb cp fl n lo hi dm ou sp k).1 x (rb cp fl n lo hi dm ou sp k).2 || !alw dm ou k x r) = true then 390 else 0) := Lib.hid (by rw [HE.out, h2]; rfl)
  have a0 := ri3_iff.1 h2
  have HNV2 : Hid (∀ y, ri3 0 y 1099511627776 = true → nxV cp st fl n lo hi dm ou sp (k : Int) x r y = .tuple (nx4 (alw dm ou k x r && nxO cp sp k x r y) (nxN cp x r y) (nxS cp x r y) 0)) := Lib.hid fun y hy => by
    rw [HNV.out, HAM.out, h2, hy, Int.toNat_natCast]
    simp
  clear HE h2 HNV HAM
  generalize (chkE cp st fl n lo hi dm ou sp) = CE at a1 HRB
  subst a1
  have c0 : w1.cell? ⟨w.heap.size, 0, none⟩ = some (.int .i64 cp) := HK1.out.cell 0
  have c1 : w1.cell? ⟨w.heap.size, 1, none⟩ = some (.int .i64 st) := HK1.out.cell 1
  have c2 : w1.cell? ⟨w.heap.size, 2, none⟩ = some (.int .i64 fl) := HK1.out.cell 2
  have c3 : w1.cell? ⟨w.heap.size, 3, none⟩ = some (.slice PA n pc) := HK1.out.cell 3
  go_wp2_with fail
  refine (HRB.out _ HB1.out).mono ?_
  rintro e w2 ⟨⟨A, k', c', rfl, hA, _⟩, hb⟩
  obtain ⟨rfl, rfl, hrow⟩ := hA rfl
  have HB2 := Lib.hid (HB1.out.trans (hb.mono HB1.out.size))
  have HK2 := Lib.hid (HK1.out.below hb HK1.out.lt)
  have HROW := Lib.hid hrow
  clear hb HK1 HB1 hA hrow c0 c1 c2 c3
  have hkn : k < n := by omega
  obtain ⟨b1, o1, rfl, _, p0, p1⟩ := rng_at HROW.out (show k < n + 1 by omega)
  have hk1 : (k : Int) < (n : Int) + 1 := by omega
  have hk2 : k < n + 1 := by omega
  generalize rb cp fl n lo hi dm ou sp k = R at HE2 p0 p1
  go_wp2_with fail
  refine (Has_25 _ _ _ _).mono ?_
  rintro e w4 ⟨rfl, hb⟩
  have HB4 := Lib.hid (HB2.out.trans (hb.mono HB2.out.size))
  have HK4 := Lib.hid (HK2.out.below hb HK2.out.lt)
  have HR14 := Lib.hid (HROW.out.below hb)
  have hz34 := hb.size
  clear hb HROW HB2 HK2 p0 p1
  cases h2 : ri3 R.1 x R.2
  case true =>
    have HE3 : Hid (E = 390) := Lib.hid (by rw [HE2.out, h2]; rfl)
    have HV3 := Lib.hid (HV.out.trans (if_neg (by rw [HE3.out]; decide)))
    go_wp2_with fail
    refine bodyPost_ret (results_tmp2 rfl _ _ _) rfl ?_
    exact ⟨ret_val (by rw [HV3.out, HE3.out]; rfl), HB4.out⟩
  have HE4 : Hid (E = if (!alw dm ou k x r) = true then 390 else 0) := Lib.hid (by rw [HE2.out, h2, Bool.false_or])
  clear HE2 h2
  have c0 : w4.cell? ⟨w.heap.size, 0, none⟩ = some (.int .i64 cp) := HK4.out.cell 0
  have c1 : w4.cell? ⟨w.heap.size, 1, none⟩ = some (.int .i64 st) := HK4.out.cell 1
  have c2 : w4.cell? ⟨w.heap.size, 2, none⟩ = some (.int .i64 fl) := HK4.out.cell 2
  have c3 : w4.cell? ⟨w.heap.size, 3, none⟩ = some (.slice PA n pc) := HK4.out.cell 3
  have HAL := Lib.hid (allowed_43 (PA := PA) (pc := pc) (cp := cp) (st := st) (fl := fl) (lo := lo) (hi := hi) (dm := dm) (ou := ou) (sp := sp) B k x r w4 hkn (by have := HB4.out.size; omega) (HRD.out.below (HB4.out.mono hB)))
  have HAL2 := Lib.hid HNV2.out
  generalize alw dm ou k x r = AL at HAL HE4 HAL2
  clear HNV2
  go_wp2_with fail
  refine HAL.out.mono ?_
  rintro e w5 ⟨rfl, hb⟩
  have HB5 := Lib.hid (HB4.out.trans (hb.mono HB4.out.size))
  have HK5 := Lib.hid (HK4.out.below hb HK4.out.lt)
  have HR15 := Lib.hid (HR14.out.below (hb.mono hz34))
  have hz45 := hb.size
  clear hb HR14 HB4 HK4 HAL c0 c1 c2 c3
  cases AL
  · have HE3 : Hid (E = 390) := Lib.hid HE4.out
    have HV3 := Lib.hid (HV.out.trans (if_neg (by rw [HE3.out]; decide)))
    go_wp2_with fail
    refine bodyPost_ret (results_tmp2 rfl _ _ _) rfl ?_
    exact ⟨ret_val (by rw [HV3.out, HE3.out]; rfl), HB5.out⟩
  have HE3 : Hid (E = 0) := Lib.hid HE4.out
  have HV3 : Hid (V = if spK cp fl n lo hi dm ou sp k x r = true then hi k else lo k) := Lib.hid (HV.out.trans (if_pos HE3.out))
  clear HV HE4
  have hlo := (HGG.out.2.2.2 k hkn).1
  have HNW := Lib.hid (HAL2.out (lo k) (ri3_iff.2 ⟨hlo.1, by omega⟩))
  have HKD : Hid (spK cp fl n lo hi dm ou sp k x r = (nxO cp sp k x r (lo k) && ri3 (rb cp fl n lo hi dm ou sp (k + 1)).1 (nxN cp x r (lo k)) (rb cp fl n lo hi dm ou sp (k + 1)).2)) := Lib.hid rfl
  generalize spK cp fl n lo hi dm ou sp k x r = KB at HV3 HKD
  obtain ⟨b, o, rfl, _, q0, q1, _, _, _⟩ := per_at (HRD.out.below (HB5.out.mono hB)) hkn
  have c3 : w5.cell? ⟨w.heap.size, 2 + 1, none⟩ = some (.slice (some ⟨b, o, none⟩) n pc) := HK5.out.cell 3
  have c3' : w5.cell? ⟨w.heap.size, 3, none⟩ = some (.slice (some ⟨b, o, none⟩) n pc) := HK5.out.cell 3
  have hkn' : (k : Int) < n := by omega
  go_upto_region 10 with fail
  obtain ⟨w6, hw6⟩ : ∃ zz, zz = w5.alloc (.cells #[.int .i64 (lo k), .int .i64 (hi k)] 48) := ⟨_, rfl⟩
  have HX6 : Hid (Blk w6 w5.heap.size 48 #[.int .i64 (lo k), .int .i64 (hi k)]) := Lib.hid (hw6 ▸ Blk.new _ _ _)
  have HB6 : Hid (Below w.heap.size w w6) := Lib.hid (hw6 ▸ HB5.out.alloc HB5.out.size _)
  have HK6 : Hid (Blk w6 w.heap.size 26 #[.int .i64 cp, .int .i64 st, .int .i64 fl, .slice (some ⟨b, o, none⟩) n pc]) := Lib.hid (hw6 ▸ HK5.out.alloc _)
  have HR16 : Hid (Rd w6 w2.heap.size (some ⟨b1, o1, none⟩) ((n + 1) * 2) (rsc (rb cp fl n lo hi dm ou sp))) := Lib.hid (hw6 ▸ HR15.out.alloc (by omega) _)
  have hz6 : w2.heap.size ≤ w6.heap.size := by rw [hw6]; simp; omega
  rw [← hw6]
  clear hw6 HB5 HK5 HR15 c3 c3' q0 q1
  generalize w5.heap.size = xb at *
  have c0 : w6.cell? ⟨w.heap.size, 0, none⟩ = some (.int .i64 cp) := HK6.out.cell 0
  have c1 : w6.cell? ⟨w.heap.size, 1, none⟩ = some (.int .i64 st) := HK6.out.cell 1
  have c2 : w6.cell? ⟨w.heap.size, 2, none⟩ = some (.int .i64 fl) := HK6.out.cell 2
  have c3 : w6.cell? ⟨w.heap.size, 3, none⟩ = some (.slice (some ⟨b, o, none⟩) n pc) := HK6.out.cell 3
  have x0 : w6.cell? ⟨xb, 0, none⟩ = some (.int .i64 (lo k)) := HX6.out.cell 0
  have hcl := HNX.out w6 (lo k) HB6.out
  rw [HNW.out] at hcl
  have HAF := Lib.hid hcl
  clear hcl HNX HNW HAL2
  generalize nxN cp x r (lo k) = N at HKD HAF
  generalize nxS cp x r (lo k) = S at HAF
  generalize nxO cp sp k x r (lo k) = O at HAF HKD
  generalize lo k = z0 at *
  unfold nx4 at HAF
  cases O
  · simp only [Bool.and_false, Bool.false_eq_true, if_false] at HAF
    have HV4 : Hid (V = z0) := Lib.hid (by rw [HV3.out, HKD.out]; rfl)
    go_wp2_with fail
    refine HAF.out.mono ?_
    rintro e w7 ⟨rfl, hb⟩
    have HB7 := Lib.hid (HB6.out.trans (hb.mono HB6.out.size))
    have HX7 := Lib.hid (HX6.out.below hb HX6.out.lt)
    clear hb c0 c1 c2 c3 x0
    have x0 : w7.cell? ⟨xb, 0, none⟩ = some (.int .i64 z0) := HX7.out.cell 0
    go_wp2_with fail
    refine bodyPost_ret (results_tmp2 rfl _ _ _) rfl ?_
    exact ⟨ret_val (by rw [HV4.out, HE3.out]; rfl), HB7.out⟩
  · simp only [Bool.and_true, if_true] at HAF
    rw [Bool.true_and] at HKD
    go_wp2_with fail
    refine HAF.out.mono ?_
    rintro e w7 ⟨rfl, hb⟩
    have HB7 := Lib.hid (HB6.out.trans (hb.mono HB6.out.size))
    have HX7 := Lib.hid (HX6.out.below hb HX6.out.lt)
    have HR17 := Lib.hid (HR16.out.below (hb.mono hz6))
    clear hb HX6 HB6 HK6 HR16 c0 c1 c2 c3 x0
    obtain ⟨b1', o1', e', _, r0, r1⟩ := rng_at HR17.out (show k + 1 < n + 1 by omega)
    injection e' with e'
    injection e' with e1 e2
    subst e1 e2
    generalize rb cp fl n lo hi dm ou sp (k + 1) = R1 at HKD r0 r1
    obtain ⟨m, hm⟩ : ∃ m : Nat, m = k + 1 := ⟨_, rfl⟩
    rw [← hm] at r0 r1
    have hwm : IntKind.i64.wrap ((k : Int) + 1) = (m : Int) := by rw [IntWalk.i64_in _ ⟨by have := HGG.out.1; omega, by have := HGG.out.1; omega⟩, hm]; rfl
    have hm1 : (m : Int) < (n : Int) + 1 := by omega
    have hm2 : m < n + 1 := by omega
    clear hm
    go_wp2_with fail
    refine (Has_25 _ _ _ _).mono ?_
    rintro e w8 ⟨rfl, hb⟩
    have HB8 := Lib.hid (HB7.out.trans (hb.mono HB7.out.size))
    have HX8 := Lib.hid (HX7.out.below hb HX7.out.lt)
    clear hb HX7 HB7 HR17 r0 r1
    have x0 : w8.cell? ⟨xb, 0, none⟩ = some (.int .i64 z0) := HX8.out.cell 0
    have x1 : w8.cell? ⟨xb, 1, none⟩ = some (.int .i64 (hi k)) := HX8.out.cell 1
    cases h7 : ri3 R1.1 N R1.2
    · have HV4 : Hid (V = z0) := Lib.hid (by rw [HV3.out, HKD.out, h7]; rfl)
      go_wp2_with fail
      refine bodyPost_ret (results_tmp2 rfl _ _ _) rfl ?_
      exact ⟨ret_val (by rw [HV4.out, HE3.out]; rfl), HB8.out⟩
    · have HV4 : Hid (V = hi k) := Lib.hid (by rw [HV3.out, HKD.out, h7]; rfl)
      go_wp2_with fail
      refine bodyPost_ret (results_tmp2 rfl _ _ _) rfl ?_
      exact ⟨ret_val (by rw [HV4.out, HE3.out]; rfl), HB8.out⟩
end Go.Proofs.Ytnmocdfogdcliaa
