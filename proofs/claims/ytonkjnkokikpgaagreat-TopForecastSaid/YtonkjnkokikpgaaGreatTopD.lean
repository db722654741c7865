/- The top: contract of broken39. -/
import Derived.Test.YtonkjnkokikpgaaGreatTopC
import Derived.Test.YtonkjnkokikpgaaGreatForfeit
import Derived.Test.YtonkjnkokikpgaaGreatFails
import Derived.BigQuiet
namespace Go.Proofs.YtonkjnkokikpgaaGreat
open Go.RowKit

/-- is the bound of the j-th body broken in period t? -/
def brB (p : PastF) (t j : Nat) : Bool := decide (p.sv j t < (p.rf j t).1) || decide ((p.rf j t).2 < p.sv j t)
theorem brB_dst (p : PastF) (t j : Nat) : brB p t j = decide (0 < dst (p.rf j t) (p.sv j t)) := by
  unfold brB dst
  rw [Bool.eq_iff_iff, Bool.or_eq_true, decide_eq_true_iff, decide_eq_true_iff, decide_eq_true_iff]
  omega
/-- the failures of the j-th body in period t -/
theorem fl_br {n : Nat} {p : PastF} {j t : Nat} (hri : Rises n p.bd) (hj : j < n) (ht : t < p.rn j) : anyB (fun i => decide ((flF p (p.bd j) n i).2 = (t : Int))) (flP (trP p (p.bd j) n)).length = brB p t j := by
  rw [brB_dst]
  cases e : anyB (fun i => decide ((flF p (p.bd j) n i).2 = (t : Int))) (flP (trP p (p.bd j) n)).length
  · symm
    rw [decide_eq_false_iff_not]
    intro h
    obtain ⟨r, hr⟩ := tr_next p (p.bd j) hj ht rfl
    have h1 : (j, t, dst (p.rf j t) (p.sv j t)) ∈ flP (trP p (p.bd j) n) := by
      unfold flP
      rw [List.mem_filter, hr]
      exact ⟨by simp, by simpa using h⟩
    obtain ⟨i, hi, h2⟩ := List.mem_iff_getElem.1 h1
    have h3 := anyB_false.1 e i hi
    rw [decide_eq_false_iff_not] at h3
    refine h3 ?_
    simp [flF, List.getD, hi, h2]
  · symm
    rw [decide_eq_true_iff]
    have h0 : ¬ ∀ i, i < (flP (trP p (p.bd j) n)).length → decide ((flF p (p.bd j) n i).2 = (t : Int)) = false := fun h => by rw [anyB_false.2 h] at e; cases e
    have h1 : ∃ i, ∃ hi : i < (flP (trP p (p.bd j) n)).length, (flF p (p.bd j) n i).2 = (t : Int) := by
      refine Classical.byContradiction fun h => h0 fun i hi => ?_
      rw [decide_eq_false_iff_not]
      exact fun h' => h ⟨i, hi, h'⟩
    obtain ⟨i, hi, h2⟩ := h1
    have h3 : (flP (trP p (p.bd j) n))[i] ∈ flP (trP p (p.bd j) n) := List.getElem_mem hi
    have h4 : (((flP (trP p (p.bd j) n))[i]).2.1 : Int) = t := by simpa [flF, List.getD, hi] using h2
    generalize (flP (trP p (p.bd j) n))[i] = y at h3 h4
    unfold flP at h3
    rw [List.mem_filter] at h3
    obtain ⟨g1, g2, _, g4⟩ := trP_mem h3.1
    have g5 := of_decide_eq_true h3.2
    have g6 : y.1 = j := by
      rcases Nat.lt_trichotomy y.1 j with h | h | h
      · have := hri _ _ h hj
        omega
      · exact h
      · have := hri _ _ h g1
        omega
    have g7 : y.2.1 = t := by omega
    rw [g4, g6, g7] at g5
    exact g5

/-- a stake that was just laid -/
theorem rd_stake1 (w : World) (a b c d : Int) : Rd (w.alloc (.cells #[.int .i64 a, .int .i64 b, .int .i64 c, .int .i64 d] 65)) (w.alloc (.cells #[.int .i64 a, .int .i64 b, .int .i64 c, .int .i64 d] 65)).heap.size (some ⟨w.heap.size, 0, none⟩) (1 * 4) (StkF.mk (fun _ => a) (fun _ => b) (fun _ => c) (fun _ => d)).cells := by
  have h := (Blk.new w 65 #[.int .i64 a, .int .i64 b, .int .i64 c, .int .i64 d]).rd (StkF.mk (fun _ => a) (fun _ => b) (fun _ => c) (fun _ => d)).cells (fun j hj => by
    rcases j with _ | _ | _ | _ | j
    · rfl
    · rfl
    · rfl
    · rfl
    · exact absurd hj (by simp))
  exact h

set_option maxRecDepth 100000 in
set_option maxHeartbeats 4000000 in
theorem broken_12 (C : Option Addr) (m d B t : Nat) (p : PastF) (w : World) (hB : B ≤ w.heap.size) (hp : PastRd w B C m p) (hpg : PGood m p) (hri : Rises m p.bd) (ht : ∀ j, j < m → t < p.rn j) (hs : ∃ j, j < m ∧ brB p t j = true) :
    Calls Tryz.prog 12 #[.slice C m d, .int .i64 t] w fun e w' => e = .returned (.bool true) ∧ Below w.heap.size w w' := by
  have HP := Lib.hid hp
  have HG := Lib.hid hpg
  have HI := Lib.hid hri
  have HT := Lib.hid ht
  have HS : Hid (anyB (brB p t) m = true) := Lib.hid (by obtain ⟨j, hj, h⟩ := hs; exact anyB_true hj h)
  have hm256 : m ≤ 256 := hpg.1
  clear hp hpg hri ht hs
  go_enter Tryz.func12, Tryz.ntmps12
  go_wp2_with fail
  go_loopw [5, 16] (fun s i wr => ∃ (k : Nat) (sm : Bool), k ≤ m ∧ i = .int .i64 k ∧ s = .bool sm ∧ Hid (sm = anyB (brB p t) k) ∧ Hid (Below w.heap.size w wr)) (fun _ i _ => m - (intOf i).toNat)
  case atStart => exact ⟨0, false, Nat.zero_le _, rfl, rfl, Lib.hid rfl, Lib.hid (Below.refl _ _)⟩
  case round =>
    obtain ⟨k, sm, hk, rfl, rfl, HSM, HL⟩ := hrel
    have hzr := HL.out.size
    by_cases hlt : ¬ k < m
    · have hlt' : ¬ (k : Int) < (m : Int) := by omega
      have hkn : k = m := by omega
      subst hkn
      have HV : Hid (sm = true) := Lib.hid (HSM.out.trans HS.out)
      go_wp2_with fail
      go_ret
      exact ⟨ret_bool HV.out, HL.out⟩
    have hlt : k < m := by omega
    have hlt' : (k : Int) < (m : Int) := by omega
    have hpp := HP.out.below (HL.out.mono hB)
    have hcc := hpp.1
    unfold PastF.cells at hcc
    obtain ⟨rb, ro, rfl, _, r0, r1, r2⟩ := pcc_at hcc hlt
    have HGK := Lib.hid (HG.out.2 k hlt)
    have htk := HT.out k hlt
    have HRK := Lib.hid (HP.out.2 k hlt).1.1
    have HSK := Lib.hid (HP.out.2 k hlt).2.1
    have HFB := Lib.hid (fl_br HI.out hlt htk)
    have HBR : Hid (brB p t k = (decide (p.sv k t < (p.rf k t).1) || decide ((p.rf k t).2 < p.sv k t))) := Lib.hid rfl
    have HFV : Hid (∀ s : StkF, s.dp 0 = 5 → s.rt 0 = 1 → s.pd 0 = t → ffV s p (fun _ => k) 0 = min 5 (max (max ((p.rf k t).1 - p.sv k t) (p.sv k t - (p.rf k t).2)) 0)) := Lib.hid fun s h1 h2 h3 => by
      unfold ffV
      rw [h1, h2, h3, Int.toNat_natCast, Int.one_mul]
    have HSN : Hid (anyB (brB p t) (k + 1) = (anyB (brB p t) k || brB p t k)) := Lib.hid rfl
    have HFI : Hid (∀ s : StkF, s.bd 0 = p.bd k → s.pd 0 = t → Fits 1 m s p (fun _ => k)) := Lib.hid fun s h1 h2 i hi => by
      obtain rfl : i = 0 := by omega
      exact ⟨hlt, h1, by rw [h2, Int.toNat_natCast]; exact htk⟩
    have hbk := HGK.out.1
    have htp : t < 16 := by have := HGK.out.2.1; omega
    have htx5 : (t : Int) < (p.sn k : Int) := by have := HGK.out.2.2.1; omega
    obtain ⟨rbb, rbo, hra, hrbB, hrc⟩ := HRK.out (by omega)
    obtain ⟨sbb, sbo, hsa, hsbB, hsc⟩ := HSK.out (by omega)
    have HRC0 := Lib.hid (hrc (t * 2) (by omega))
    have HRC1 := Lib.hid (hrc (t * 2 + 1) (by omega))
    have HSC := Lib.hid (hsc t (by omega))
    rw [rsc_0] at HRC0
    rw [rsc_1] at HRC1
    clear hcc hpp hrc hsc HRK HSK HGK
    generalize p.bd k = x0 at *
    generalize p.rA k = x1 at *
    generalize p.rn k = x2 at *
    generalize p.rc k = x3 at *
    generalize p.sA k = x4 at *
    generalize p.sn k = x5 at *
    generalize p.sc k = x6 at *
    subst hra hsa
    have htx2 : (t : Int) < (x2 : Int) := by omega
    go_upto_region 5 with fail
    obtain ⟨e1, he1⟩ : ∃ zz, zz = wr.alloc (.cells #[.int .i64 x0, .slice (some ⟨rbb, rbo, none⟩) x2 x3, .slice (some ⟨sbb, sbo, none⟩) x5 x6] 49) := ⟨_, rfl⟩
    have HX1 : Hid (Blk e1 wr.heap.size 49 #[.int .i64 x0, .slice (some ⟨rbb, rbo, none⟩) x2 x3, .slice (some ⟨sbb, sbo, none⟩) x5 x6]) := Lib.hid (he1 ▸ Blk.new _ _ _)
    have HE1 : Hid (Below wr.heap.size wr e1) := Lib.hid (he1 ▸ below_alloc _ _)
    rw [← he1]
    clear he1 r0 r1 r2
    have hx1 := HX1.out.lt
    have y0 : e1.cell? ⟨wr.heap.size, 0, none⟩ = some (.int .i64 x0) := HX1.out.cell 0
    go_wp2_with fail
    refine (Fails_32 (some ⟨rb, ro, none⟩) m d B p x0 e1 (by omega) (by omega) (HP.out.below ((HL.out.trans (HE1.out.mono hzr)).mono hB))).mono ?_
    rintro e w2 ⟨⟨D, L, dc, E, rfl, hE, hL, hrd⟩, hb⟩
    obtain rfl : E = 0 := hE HG.out hbk
    have HFL := Lib.hid (hL rfl)
    rw [← HFL.out] at HFB
    have HRD := Lib.hid hrd
    have HE2 := Lib.hid (HE1.out.trans (hb.mono HE1.out.size))
    have HX2 := Lib.hid (HX1.out.below hb hx1)
    have hL4096 : L ≤ 4096 := by
      have h1 := trP_len p x0 (fun j hj => (HG.out.2 j hj).2.1.2) m (Nat.le_refl _)
      have h2 := flP_len (trP p x0 m)
      have h3 := HFL.out
      omega
    have HL2 := Lib.hid (HL.out.trans (HE2.out.mono hzr))
    have hx2 := HX2.out.lt
    clear hE hL hrd hb y0 HX1 HE1 HE2 HL HFL hx1
    generalize flF p x0 m = g at *
    generalize wr.heap.size = xb at *
    clear wr
    go_wp2_with fail
    go_loopw [10, 31] (fun f i wu => ∃ (q : Nat) (fl : Bool), q ≤ L ∧ i = .int .i64 q ∧ f = .bool fl ∧ Hid (fl = anyB (fun i => decide ((g i).2 = (t : Int))) q) ∧ Hid (Below w2.heap.size w2 wu)) (fun _ i _ => L - (intOf i).toNat)
    case atStart => exact ⟨0, false, Nat.zero_le _, rfl, rfl, Lib.hid rfl, Lib.hid (Below.refl _ _)⟩
    case round =>
      obtain ⟨q, fl, hq, rfl, rfl, HFL1, HD⟩ := hrel
      have HLr := Lib.hid (HL2.out.trans (HD.out.mono HL2.out.size))
      have HXr := Lib.hid (HX2.out.below HD.out hx2)
      have hzr2 := HLr.out.size
      by_cases hlq : ¬ q < L
      · have hlq' : ¬ (q : Int) < (L : Int) := by omega
        have hqL : q = L := by omega
        subst hqL
        have HV : Hid (fl = brB p t k) := Lib.hid (HFL1.out.trans HFB.out)
        have HFO : Hid (Calls Tryz.prog 15 #[.slice (some ⟨wr.heap.size, 0, none⟩) 1 1, .slice (some ⟨rb, ro, none⟩) m d, .int .i64 0] (wr.alloc (.cells #[.int .i64 x0, .int .i64 t, .int .i64 5, .int .i64 1] 65)) fun e w' => e = .returned (.tuple #[.int .i64 (min 5 (max (max ((p.rf k t).1 - p.sv k t) (p.sv k t - (p.rf k t).2)) 0)), .int .i64 0]) ∧ Below (wr.alloc (.cells #[.int .i64 x0, .int .i64 t, .int .i64 5, .int .i64 1] 65)).heap.size (wr.alloc (.cells #[.int .i64 x0, .int .i64 t, .int .i64 5, .int .i64 1] 65)) w') := Lib.hid (by
          have h1 := Forfeit_15 (some ⟨wr.heap.size, 0, none⟩) (some ⟨rb, ro, none⟩) 1 1 m d (wr.alloc (.cells #[.int .i64 x0, .int .i64 t, .int .i64 5, .int .i64 1] 65)).heap.size 0 ⟨fun _ => x0, fun _ => t, fun _ => 5, fun _ => 1⟩ p (fun _ => k) (wr.alloc (.cells #[.int .i64 x0, .int .i64 t, .int .i64 5, .int .i64 1] 65)) (by omega) (Nat.le_refl _)
            (rd_stake1 wr x0 t 5 1)
            ⟨by omega, fun i _ => ⟨hbk, ⟨by simp, by simp; omega⟩, ⟨by simp, by simp⟩, by simp, by simp⟩, fun i hi => absurd hi (by omega)⟩
            ((HP.out.below ((HLr.out.alloc hzr2 _).mono hB)).mono (by simp; omega)) HG.out HI.out (HFI.out _ rfl rfl)
          rw [HFV.out _ rfl rfl rfl] at h1
          exact h1)
        have y0 : wr.cell? ⟨xb, 0, none⟩ = some (.int .i64 x0) := HXr.out.cell 0
        clear HFL1 HFV HFI HFB
        generalize brB p t k = br at *
        generalize (p.rf k t).1 = lo at *
        generalize (p.rf k t).2 = hi at *
        generalize p.sv k t = sv at *
        go_wp2_with fail
        refine HFO.out.mono ?_
        rintro e w3 ⟨rfl, hb⟩
        have HL3 := Lib.hid ((HLr.out.alloc hzr2 (.cells #[.int .i64 x0, .int .i64 t, .int .i64 5, .int .i64 1] 65)).trans (hb.mono (by simp; omega)))
        have HX3 := Lib.hid ((HXr.out.alloc (.cells #[.int .i64 x0, .int .i64 t, .int .i64 5, .int .i64 1] 65)).below hb (HXr.out.alloc _).lt)
        have y1 : w3.cell? ⟨xb, 1, none⟩ = some (.slice (some ⟨rbb, rbo, none⟩) x2 x3) := HX3.out.cell 1
        have y2 : w3.cell? ⟨xb, 2, none⟩ = some (.slice (some ⟨sbb, sbo, none⟩) x5 x6) := HX3.out.cell 2
        have y2' : w3.cell? ⟨xb, 1 + 1, none⟩ = some (.slice (some ⟨sbb, sbo, none⟩) x5 x6) := HX3.out.cell 2
        have c0 : w3.cell? ⟨rbb, rbo + t * 2, none⟩ = some (.int .i64 lo) := (HL3.out.cell (p := ⟨rbb, rbo + t * 2, none⟩) (show rbb < _ by omega)).trans HRC0.out
        have c1 : w3.cell? ⟨rbb, rbo + t * 2 + 1, none⟩ = some (.int .i64 hi) := (HL3.out.cell (p := ⟨rbb, rbo + t * 2 + 1, none⟩) (show rbb < _ by omega)).trans HRC1.out
        have c2 : w3.cell? ⟨sbb, sbo + t, none⟩ = some (.int .i64 sv) := (HL3.out.cell (p := ⟨sbb, sbo + t, none⟩) (show sbb < _ by omega)).trans HSC.out
        clear hb y0
        by_cases g1 : sv < lo
        · have d1 : decide (sv < lo) = true := by simpa using g1
          have HB3 : Hid (anyB (brB p t) (k + 1) = (sm || true)) := Lib.hid (by rw [HSN.out, ← HSM.out, HBR.out, d1, Bool.true_or])
          have hfl : fl = true := by rw [HV.out, HBR.out, d1, Bool.true_or]
          obtain ⟨v, hv⟩ : ∃ v, v = min 5 (max (max (lo - sv) (sv - hi)) 0) := ⟨_, rfl⟩
          have hv5 : decide (5 < v) = false := by rw [decide_eq_false_iff_not]; omega
          have hv0 : decide (0 < v) = true := by rw [decide_eq_true_iff]; omega
          rw [← hv]
          clear hv HV HBR HSN HSM
          subst hfl
          go_upto_region 15 with fail
          go_quiet (fail)
          cases sm
          · go_wp2_with fail
            go_roundw
            case rel => exact ⟨k + 1, true, by omega, by go_num, rfl, Lib.hid HB3.out.symm, Lib.hid (below_quiet HL3.out ⟨_, rfl⟩)⟩
            case measure => simp [intOf]; omega
          · go_wp2_with fail
            go_roundw
            case rel => exact ⟨k + 1, true, by omega, by go_num, rfl, Lib.hid HB3.out.symm, Lib.hid (below_quiet HL3.out ⟨_, rfl⟩)⟩
            case measure => simp [intOf]; omega
        have d1 : decide (sv < lo) = false := by simpa using g1
        by_cases g2 : hi < sv
        · have d2 : decide (hi < sv) = true := by simpa using g2
          have HB3 : Hid (anyB (brB p t) (k + 1) = (sm || true)) := Lib.hid (by rw [HSN.out, ← HSM.out, HBR.out, d1, d2, Bool.false_or])
          have hfl : fl = true := by rw [HV.out, HBR.out, d1, d2, Bool.false_or]
          obtain ⟨v, hv⟩ : ∃ v, v = min 5 (max (max (lo - sv) (sv - hi)) 0) := ⟨_, rfl⟩
          have hv5 : decide (5 < v) = false := by rw [decide_eq_false_iff_not]; omega
          have hv0 : decide (0 < v) = true := by rw [decide_eq_true_iff]; omega
          rw [← hv]
          clear hv HV HBR HSN HSM
          subst hfl
          go_upto_region 15 with fail
          go_quiet (fail)
          cases sm
          · go_wp2_with fail
            go_roundw
            case rel => exact ⟨k + 1, true, by omega, by go_num, rfl, Lib.hid HB3.out.symm, Lib.hid (below_quiet HL3.out ⟨_, rfl⟩)⟩
            case measure => simp [intOf]; omega
          · go_wp2_with fail
            go_roundw
            case rel => exact ⟨k + 1, true, by omega, by go_num, rfl, Lib.hid HB3.out.symm, Lib.hid (below_quiet HL3.out ⟨_, rfl⟩)⟩
            case measure => simp [intOf]; omega
        · have d2 : decide (hi < sv) = false := by simpa using g2
          have HB3 : Hid (anyB (brB p t) (k + 1) = (sm || false)) := Lib.hid (by rw [HSN.out, ← HSM.out, HBR.out, d1, d2, Bool.false_or])
          have hfl : fl = false := by rw [HV.out, HBR.out, d1, d2, Bool.false_or]
          obtain ⟨v, hv⟩ : ∃ v, v = min 5 (max (max (lo - sv) (sv - hi)) 0) := ⟨_, rfl⟩
          have hv5 : decide (5 < v) = false := by rw [decide_eq_false_iff_not]; omega
          have hv0 : decide (0 < v) = false := by rw [decide_eq_false_iff_not]; omega
          rw [← hv]
          clear hv HV HBR HSN HSM
          subst hfl
          go_upto_region 15 with fail
          go_quiet (fail)
          cases sm
          · go_wp2_with fail
            go_roundw
            case rel => exact ⟨k + 1, false, by omega, by go_num, rfl, Lib.hid HB3.out.symm, Lib.hid (below_quiet HL3.out ⟨_, rfl⟩)⟩
            case measure => simp [intOf]; omega
          · go_wp2_with fail
            go_roundw
            case rel => exact ⟨k + 1, true, by omega, by go_num, rfl, Lib.hid HB3.out.symm, Lib.hid (below_quiet HL3.out ⟨_, rfl⟩)⟩
            case measure => simp [intOf]; omega
      have hlq : q < L := by omega
      have hlq' : (q : Int) < (L : Int) := by omega
      obtain ⟨gb, go, rfl, _, g0, g1⟩ := rng_at (HRD.out.below HD.out) hlq
      have HNX : Hid (anyB (fun i => decide ((g i).2 = (t : Int))) (q + 1) = (anyB (fun i => decide ((g i).2 = (t : Int))) q || decide ((g q).2 = (t : Int)))) := Lib.hid rfl
      rw [← HFL1.out] at HNX
      generalize (g q).1 = z0 at *
      generalize (g q).2 = z1 at *
      go_upto_region 12 with fail
      obtain ⟨e3, he3⟩ : ∃ zz, zz = wr.alloc (.cells #[.int .i64 z0, .int .i64 z1] 91) := ⟨_, rfl⟩
      have HX3 : Hid (Blk e3 wr.heap.size 91 #[.int .i64 z0, .int .i64 z1]) := Lib.hid (he3 ▸ Blk.new _ _ _)
      have HD3 : Hid (Below w2.heap.size w2 e3) := Lib.hid (he3 ▸ HD.out.alloc HD.out.size _)
      rw [← he3]
      clear he3 g0 g1
      have x1' : e3.cell? ⟨wr.heap.size, 1, none⟩ = some (.int .i64 z1) := HX3.out.cell 1
      cases fl
      · by_cases hz : z1 = (t : Int)
        · have hzd : decide (z1 = (t : Int)) = true := by simpa using hz
          have hze : (z1 == (t : Int)) = true := by simpa using hz
          have HN2 : Hid (true = anyB (fun i => decide ((g i).2 = (t : Int))) (q + 1)) := Lib.hid (by rw [HNX.out, hzd]; rfl)
          clear hz HNX
          go_wp2_with fail
          go_roundw
          case rel => exact ⟨q + 1, true, by omega, by go_num, rfl, HN2, HD3⟩
          case measure => simp [intOf]; omega
        · have hzd : decide (z1 = (t : Int)) = false := by simpa using hz
          have hze : (z1 == (t : Int)) = false := by simpa using hz
          have HN2 : Hid (false = anyB (fun i => decide ((g i).2 = (t : Int))) (q + 1)) := Lib.hid (by rw [HNX.out, hzd]; rfl)
          clear hz HNX
          go_wp2_with fail
          go_roundw
          case rel => exact ⟨q + 1, false, by omega, by go_num, rfl, HN2, HD3⟩
          case measure => simp [intOf]; omega
      · have HN2 : Hid (true = anyB (fun i => decide ((g i).2 = (t : Int))) (q + 1)) := Lib.hid (by rw [HNX.out]; rfl)
        clear HNX
        go_wp2_with fail
        go_roundw
        case rel => exact ⟨q + 1, true, by omega, by go_num, rfl, HN2, HD3⟩
        case measure => simp [intOf]; omega
end Go.Proofs.YtonkjnkokikpgaaGreat
