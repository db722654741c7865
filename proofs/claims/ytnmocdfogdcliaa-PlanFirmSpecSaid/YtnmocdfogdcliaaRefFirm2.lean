/- Contract of the reference's Firm. -/
import Derived.Test.YtnmocdfogdcliaaRefFirm
import Derived.Test.YtnmocdfogdcliaaFirm
namespace Go.Proofs.Ytnmocdfogdcliaa
open Go.RowKit

set_option maxRecDepth 100000 in
set_option maxHeartbeats 8000000 in
theorem Firm_24 {PA : Option Addr} {n pc : Nat} {cp st fl : Int} {lo hi dm ou sp : Nat → Int} (B m sc : Nat) (SA : Option Addr) (sh : Nat → Int) (w : World) (hn : n ≤ 9223372036854775807) (hm : m ≤ 9223372036854775807) (hB : B ≤ w.heap.size) (hr : Rd w B PA (n * 5) (psc lo hi dm ou sp)) (hf : Rd w B SA m (fun j => .int .i64 (sh j))) :
    Calls Try.prog 24 #[(.agg #[.int .i64 cp, .int .i64 st, .int .i64 fl, .slice PA n pc]), .slice SA m sc] w fun e w' => e = .returned (fiV cp st fl n lo hi dm ou sp m sh) ∧ Below w.heap.size w w' := by
  obtain ⟨w0, hw0⟩ : ∃ zz, zz = w.alloc (.cells #[.int .i64 cp, .int .i64 st, .int .i64 fl, .slice PA n pc] 26) := ⟨_, rfl⟩
  have HK0 : Hid (Blk w0 w.heap.size 26 #[.int .i64 cp, .int .i64 st, .int .i64 fl, .slice PA n pc]) := Lib.hid (hw0 ▸ Blk.new _ _ _)
  have HB0 : Hid (Below w.heap.size w w0) := Lib.hid (hw0 ▸ below_alloc _ _)
  have HW := Lib.hid hw0
  have HRD := Lib.hid hr
  have HF := Lib.hid hf
  have HCK := Lib.hid (ref_Check_15 (PA := PA) (pc := pc) (cp := cp) (st := st) (fl := fl) B w0 hn (by have := HB0.out.size; omega) (hr.below (HB0.out.mono hB)))
  clear hw0 hr hf
  have c0 : w0.cell? ⟨w.heap.size, 0, none⟩ = some (.int .i64 cp) := HK0.out.cell 0
  have c1 : w0.cell? ⟨w.heap.size, 1, none⟩ = some (.int .i64 st) := HK0.out.cell 1
  have c2 : w0.cell? ⟨w.heap.size, 2, none⟩ = some (.int .i64 fl) := HK0.out.cell 2
  have c3 : w0.cell? ⟨w.heap.size, 3, none⟩ = some (.slice PA n pc) := HK0.out.cell 3
  have H64 : Hid ((chkE cp st fl n lo hi dm ou sp) = 0 → n ≤ 64) := Lib.hid fun h => (chk_zero h).1
  have HE : Hid (fiE cp st fl n lo hi dm ou sp m sh = if ¬ (chkE cp st fl n lo hi dm ou sp) = 0 then (chkE cp st fl n lo hi dm ou sp) else if ¬ m = n then 390 else if shB sh m = false then 390 else 0) := Lib.hid rfl
  have HV : Hid (fiV cp st fl n lo hi dm ou sp m sh = .tuple (fi3 (fiE cp st fl n lo hi dm ou sp m sh) (fiK cp st fl n lo hi ou sp sh))) := Lib.hid rfl
  have HKL := fiK_le cp st fl n lo hi ou sp sh
  have HKS : Hid ((∀ j, j < n → 0 ≤ sh j ∧ sh j ≤ 1048576) → ∀ i, i < 1048577 → frmB cp st fl n lo hi ou sp sh i = decide (i < fiK cp st fl n lo hi ou sp sh)) := Lib.hid fun h i hi => fiK_spec h hi
  generalize fiV cp st fl n lo hi dm ou sp m sh = V at HV ⊢
  generalize fiE cp st fl n lo hi dm ou sp m sh = E at HV HE
  generalize fiK cp st fl n lo hi ou sp sh = K at HV HKL HKS
  generalize (chkE cp st fl n lo hi dm ou sp) = CE at HCK HE H64
  go_enter Try.func24, Try.ntmps24
  go_upto_region 1 with fail
  rw [← HW.out]
  clear HW
  go_wp2_with fail
  refine HCK.out.mono ?_
  rintro e w1 ⟨rfl, hb⟩
  have HB1 := Lib.hid (HB0.out.trans (hb.mono HB0.out.size))
  have HK1 := Lib.hid (HK0.out.below hb HK0.out.lt)
  clear hb HK0 HB0 HCK c0 c1 c2 c3
  by_cases h1 : ¬ CE = 0
  · have HE2 := Lib.hid (HE.out.trans (if_pos h1))
    have h1d : (CE == 0) = false := by simpa using h1
    go_wp2_with fail
    go_ret3
    exact ⟨ret_val (by rw [HV.out, HE2.out]; simp [fi3, h1]), HB1.out⟩
  have h1 : CE = 0 := by omega
  subst h1
  have h64 := H64.out rfl
  have HE2 := Lib.hid (HE.out.trans (if_neg (by simp)))
  clear HE H64
  have c3 : w1.cell? ⟨w.heap.size, 2 + 1, none⟩ = some (.slice PA n pc) := HK1.out.cell 3
  have c3' : w1.cell? ⟨w.heap.size, 3, none⟩ = some (.slice PA n pc) := HK1.out.cell 3
  by_cases h2 : ¬ m = n
  · have HE3 := Lib.hid (HE2.out.trans (if_pos h2))
    have h2d : ((m : Int) == n) = false := by simpa using fun h => h2 (by omega)
    have h2e : ((m : Int) != n) = true := by simpa using fun h => h2 (by omega)
    go_wp2_with fail
    go_ret3
    exact ⟨ret_val (by rw [HV.out, HE3.out]; rfl), HB1.out⟩
  have h2 : m = n := by omega
  subst h2
  have HE3 := Lib.hid (HE2.out.trans (if_neg (by simp)))
  clear HE2
  go_wp2_with fail
  clear c3 c3'
  go_loopw [8] (fun i wr => ∃ k : Nat, k ≤ m ∧ i = .int .i64 k ∧ Hid (shB sh k = true) ∧ w1 = wr) (fun i _ => m - (intOf i).toNat)
  case atStart => exact ⟨0, Nat.zero_le _, rfl, Lib.hid rfl, rfl⟩
  case round =>
    obtain ⟨k, hk, rfl, HSB, rfl⟩ := hrel
    by_cases hlt : k < m
    · have hlt' : (k : Int) < m := by omega
      obtain ⟨b, o, e, _, hc⟩ := HF.out.below (HB1.out.mono hB) (by omega)
      subst e
      have p0 : w1.cell? ⟨b, o + k, none⟩ = some (.int .i64 (sh k)) := hc k hlt
      clear hc
      have HN : Hid (shB sh (k + 1) = (shB sh k && ri3 0 (sh k) 1048576)) := Lib.hid rfl
      have HBAD : Hid (ri3 0 (sh k) 1048576 = false → shB sh m = false) := Lib.hid fun h => shB_bad h m hlt
      generalize sh k = z at *
      go_wp2_with fail
      refine (within_36 _ _ _ _).mono ?_
      rintro e w3 ⟨rfl, rfl⟩
      cases h3 : ri3 0 z 1048576
      · have HE4 := Lib.hid (HE3.out.trans (if_pos (HBAD.out h3)))
        go_wp2_with fail
        go_ret3
        exact ⟨ret_val (by rw [HV.out, HE4.out]; rfl), HB1.out⟩
      · have HN2 : Hid (shB sh (k + 1) = true) := Lib.hid (by rw [HN.out, HSB.out, h3]; rfl)
        go_wp2_with fail
        go_roundw
        case rel => exact ⟨k + 1, by omega, by go_num, HN2, by first | rfl | trivial⟩
        case measure => simp [intOf]; omega
    · have hkm : m = k := by omega
      subst hkm
      have HE4 := Lib.hid (HE3.out.trans (if_neg (by rw [HSB.out]; simp)))
      have HSH := Lib.hid (shB_at m HSB.out)
      have HKS2 := Lib.hid (HKS.out HSH.out)
      clear HE3 HSB hlt
      have HFM : Hid (∀ (N : Nat) W, N < 1048577 → Below w.heap.size w W → Calls Try.prog 46 #[.agg #[.int .i64 cp, .int .i64 st, .int .i64 fl, .slice PA m pc], .slice SA m sc, .int .i64 N] W fun e w' => e = .returned (.bool (decide (N < K))) ∧ Below W.heap.size W w') :=
        Lib.hid fun N W hN hW => (firm_46 (PA := PA) (n := m) (pc := pc) (cp := cp) (st := st) (fl := fl) (lo := lo) (hi := hi) (dm := dm) (ou := ou) (sp := sp) B N sc SA sh W (by omega) h64 HSH.out (by have := hW.size; omega) (HRD.out.below (hW.mono hB)) (HF.out.below (hW.mono hB))).mono fun e w' h => ⟨by rw [h.1, HKS2.out N hN], h.2⟩
      clear HKS HKS2 HSH HF HRD
      have c0 : w1.cell? ⟨w.heap.size, 0, none⟩ = some (.int .i64 cp) := HK1.out.cell 0
      have c1 : w1.cell? ⟨w.heap.size, 1, none⟩ = some (.int .i64 st) := HK1.out.cell 1
      have c2 : w1.cell? ⟨w.heap.size, 2, none⟩ = some (.int .i64 fl) := HK1.out.cell 2
      have c3 : w1.cell? ⟨w.heap.size, 3, none⟩ = some (.slice PA m pc) := HK1.out.cell 3
      have HX0 := Lib.hid (HFM.out 0 w1 (by omega) HB1.out)
      rw [show ((0 : Nat) : Int) = 0 from rfl] at HX0
      go_wp2_with fail
      refine HX0.out.mono ?_
      rintro e w2 ⟨rfl, hb⟩
      have HB2 := Lib.hid (HB1.out.trans (hb.mono HB1.out.size))
      have HK2 := Lib.hid (HK1.out.below hb HK1.out.lt)
      clear hb HX0 HB1 HK1 c0 c1 c2 c3
      by_cases h5 : 0 < K
      · have h5d : decide (0 < K) = true := by simpa using h5
        rw [h5d]
        go_wp2_with fail
        go_loopw [9, 10] (fun s9 s10 wr => ∃ a b : Nat, s9 = .int .i64 a ∧ s10 = .int .i64 b ∧ a < K ∧ K ≤ b ∧ b ≤ 1048577 ∧ Hid (Blk wr w.heap.size 26 #[.int .i64 cp, .int .i64 st, .int .i64 fl, .slice PA m pc]) ∧ Below w.heap.size w wr) (fun s9 s10 _ => (intOf s10).toNat - (intOf s9).toNat)
        case atStart => exact ⟨0, 1048577, rfl, rfl, h5, HKL, Nat.le_refl _, HK2, HB2.out⟩
        case round =>
          obtain ⟨a, b, rfl, rfl, ha, hb1, hb2, HKr, hbl⟩ := hrel
          have HBr := Lib.hid hbl
          clear hbl
          by_cases hlt : a + 1 < b
          · have hlt' : (a : Int) + 1 < b := by omega
            have c0 : wr.cell? ⟨w.heap.size, 0, none⟩ = some (.int .i64 cp) := HKr.out.cell 0
            have c1 : wr.cell? ⟨w.heap.size, 1, none⟩ = some (.int .i64 st) := HKr.out.cell 1
            have c2 : wr.cell? ⟨w.heap.size, 2, none⟩ = some (.int .i64 fl) := HKr.out.cell 2
            have c3 : wr.cell? ⟨w.heap.size, 3, none⟩ = some (.slice PA m pc) := HKr.out.cell 3
            obtain ⟨M, hM⟩ : ∃ M : Nat, M = (a + b) / 2 := ⟨_, rfl⟩
            have hMi : ((a : Int) + b) / 2 = M := by omega
            have hMt : Int.tdiv ((a : Int) + b) 2 = M := by rw [Int.tdiv_eq_ediv_of_nonneg (by omega)]; exact hMi
            have HXM := Lib.hid (HFM.out M wr (by omega) HBr.out)
            have hM1 : a < M := by omega
            have hM2 : M < b := by omega
            clear hM
            go_wp2_with fail
            refine HXM.out.mono ?_
            rintro e w3 ⟨rfl, hb⟩
            have HB3 := Lib.hid (HBr.out.trans (hb.mono HBr.out.size))
            have HK3 := Lib.hid (HKr.out.below hb HKr.out.lt)
            clear hb
            by_cases h6 : M < K
            · have h6d : decide (M < K) = true := by simpa using h6
              rw [h6d]
              go_wp2_with fail
              go_roundw
              case rel => exact ⟨M, b, rfl, rfl, h6, hb1, hb2, HK3, HB3.out⟩
              case measure => simp [intOf]; omega
            · have h6d : decide (M < K) = false := by simpa using h6
              rw [h6d]
              go_wp2_with fail
              go_roundw
              case rel => exact ⟨a, M, rfl, rfl, ha, by omega, by omega, HK3, HB3.out⟩
              case measure => simp [intOf]; omega
          · have haK : K = a + 1 := by omega
            have hlt2 : ¬ (a : Int) + 1 < b := by omega
            subst haK
            go_wp2_with fail
            go_ret3
            exact ⟨ret_val (by rw [HV.out, HE4.out]; simp [fi3]), HBr.out⟩
      · have hK0 : K = 0 := by omega
        subst hK0
        rw [show decide (0 < 0) = false from rfl]
        go_wp2_with fail
        go_ret3
        exact ⟨ret_val (by rw [HV.out, HE4.out]; rfl), HB2.out⟩
end Go.Proofs.Ytnmocdfogdcliaa
