/- Contract of the reference's flow. A right table. -/
import Derived.Test.YtfddlodfmmnanaaFlow
namespace Go.Proofs.Ytfddlodfmmnanaa
open Go.RowKit

theorem flow_first {S F : Nat → Int} {n : Nat} (hn : n ≠ 0) (h : rowsB S F n = true) {s : Int} (hs : s ≤ S 0) : fLo S F n s = F 0 ∧ fHi S F n s = F 0 := by
  have hl := idx_le S s n
  by_cases h0 : idx S s n = 0
  · simp [fLo, fHi, h0]
  · have h1 : idx S s n ≤ 1 := by
      by_cases h2 : idx S s n ≤ 1
      · exact h2
      · have := idx_below S s n 1 (by omega)
        have := rows_rise h 1 0 (by omega) (by omega)
        omega
    have h2 : idx S s n = 1 := by omega
    have h3 := idx_below S s n 0 (by omega)
    have h4 : s = S 0 := by omega
    by_cases hn1 : n = 1
    · subst hn1; simp [fLo, fHi, h2]
    · have h5 := rows_rise h 1 0 (by omega) (by omega)
      have hn1' : ¬ 1 = n := by omega
      have h6 : S 0 - S 0 = 0 := by omega
      simp only [fLo, fHi, h2, if_neg hn1']
      rw [h4]
      simp [h6]
      rw [Int.ediv_eq_zero_of_lt (show 0 ≤ S 1 - S 0 - 1 by omega) (show S 1 - S 0 - 1 < S 1 - S 0 by omega), Int.add_zero]
theorem flow_last {S F : Nat → Int} {n : Nat} (hn : n ≠ 0) (h : rowsB S F n = true) {s : Int} (hs : S (n - 1) ≤ s) : fLo S F n s = F (n - 1) ∧ fHi S F n s = F (n - 1) := by
  have hl := idx_le S s n
  have h1 : idx S s n = n := by
    by_cases h2 : idx S s n = n
    · exact h2
    · have h3 := idx_at S s n (by omega)
      have : S (idx S s n) ≤ S (n - 1) := by
        by_cases e : idx S s n = n - 1
        · rw [e]; exact Int.le_refl _
        · have := rows_rise h (n - 1) (idx S s n) (by omega) (by omega)
          omega
      omega
  simp [fLo, fHi, h1, hn]

set_option maxRecDepth 100000 in
set_option maxHeartbeats 2000000 in
theorem ref_flow_22 (no rc cl dr si : Int) (A : Option Addr) (n c B : Nat) (S F : Nat → Int) (s : Int) (w : World) (hn : n ≠ 0) (hm : n ≤ 64) (hB : B ≤ w.heap.size) (hr : RdP w B A n S F) (hrow : rowsB S F n = true) :
    Calls Try.prog 22 #[gv no rc cl dr si A n c, .int .i64 s] w fun e w' => e = .returned (.agg #[.int .i64 (fLo S F n s), .int .i64 (fHi S F n s)]) ∧ Below w.heap.size w w' := by
  obtain ⟨b, off, rfl, hbB, _, _⟩ := hr.at_ (k := 0) (by omega)
  have HR := Lib.hid hr
  have HROW := Lib.hid hrow
  have hbw : b < w.heap.size := by omega
  have HFST : Hid (s ≤ S 0 → fLo S F n s = F 0 ∧ fHi S F n s = F 0) := Lib.hid (flow_first hn hrow)
  have HLST : Hid (S (n - 1) ≤ s → fLo S F n s = F (n - 1) ∧ fHi S F n s = F (n - 1)) := Lib.hid (flow_last hn hrow)
  obtain ⟨lo, hlo⟩ : ∃ lo, lo = fLo S F n s := ⟨_, rfl⟩
  obtain ⟨hi, hhi⟩ : ∃ hi, hi = fHi S F n s := ⟨_, rfl⟩
  have HLO := Lib.hid hlo
  have HHI := Lib.hid hhi
  rw [← hlo, ← hhi] at HFST HLST ⊢
  clear hr hrow hlo hhi
  obtain ⟨m, rfl⟩ : ∃ m, n = m + 1 := ⟨n - 1, by omega⟩
  rw [Nat.add_sub_cancel] at HLST
  have hn' : (0 : Int) < (m + 1 : Nat) := by omega
  have hkz : ((m + 1 : Nat) : Int) - 1 = m := by omega
  unfold gv
  go_enter Try.func22, Try.ntmps22
  go_upto_region 1 with fail
  obtain ⟨w2, hw2⟩ : ∃ w2, w2 = (w.alloc (.cells #[.int .i64 no, .int .i64 rc, .int .i64 cl, .int .i64 dr, .int .i64 si, .slice (some ⟨b, off, none⟩) (m + 1) c] 24)).alloc (.cells #[.int .i64 0, .int .i64 0] 27) := ⟨_, rfl⟩
  have HG2 : Hid (Blk w2 w.heap.size 24 #[.int .i64 no, .int .i64 rc, .int .i64 cl, .int .i64 dr, .int .i64 si, .slice (some ⟨b, off, none⟩) (m + 1) c]) := Lib.hid (hw2 ▸ (Blk.new _ _ _).alloc _)
  have HF2 : Hid (Blk w2 (w.heap.size + 1) 27 #[.int .i64 0, .int .i64 0]) := Lib.hid (by have := Blk.new (w.alloc (.cells #[.int .i64 no, .int .i64 rc, .int .i64 cl, .int .i64 dr, .int .i64 si, .slice (some ⟨b, off, none⟩) (m + 1) c] 24)) 27 #[.int .i64 0, .int .i64 0]; rw [World.size_alloc] at this; rw [hw2]; exact this)
  have HB2 : Hid (Below w.heap.size w w2) := Lib.hid (by rw [hw2]; (repeat (first | exact Below.refl _ _ | exact below_alloc _ _ | refine Below.alloc ?_ (by simp; omega) _ | refine Below.alloc ?_ (by simp) _)))
  have hs2 : w2.heap.size = w.heap.size + 1 + 1 := by rw [hw2]; simp
  rw [← hw2]
  clear hw2
  have hs2' : w.heap.size + 1 + 1 ≤ w2.heap.size := by omega
  clear hs2
  obtain ⟨q1, q2⟩ := (HR.out.below (HB2.out.mono hB)).here (k := 0) (by omega)
  simp only [Nat.zero_mul, Nat.add_zero] at q1 q2
  have cg : w2.cell? ⟨w.heap.size, 5, none⟩ = some (.slice (some ⟨b, off, none⟩) (m + 1) c) := HG2.out.cell 5
  have hbw2 : b < w2.heap.size := by omega
  have hgw2 : w.heap.size < w2.heap.size := by omega
  go_upto_region 2 with fail
  obtain ⟨w3, hw3⟩ : ∃ w3, w3 = w2.alloc (.cells #[.int .i64 (S 0), .int .i64 (F 0)] 39) := ⟨_, rfl⟩
  have HX3 : Hid (Blk w3 w2.heap.size 39 #[.int .i64 (S 0), .int .i64 (F 0)]) := Lib.hid (hw3 ▸ Blk.new _ _ _)
  have HB3 : Hid (Below w2.heap.size w2 w3) := Lib.hid (hw3 ▸ below_alloc _ _)
  rw [← hw3]
  clear hw3 cg q1 q2 hbw2 hgw2
  have hs3 := HB3.out.size
  have hs3' := HX3.out.lt
  have HG3 := Lib.hid (HG2.out.below HB3.out (by omega))
  have HF3 := Lib.hid (HF2.out.below HB3.out (by omega))
  have HB4 := Lib.hid (HB2.out.trans (HB3.out.mono (by omega)))
  obtain ⟨q3, q4⟩ := (HR.out.below (HB4.out.mono hB)).here (k := m) (by omega)
  have cg : w3.cell? ⟨w.heap.size, 5, none⟩ = some (.slice (some ⟨b, off, none⟩) (m + 1) c) := HG3.out.cell 5
  have hbw2 : b < w3.heap.size := by omega
  have hgw2 : w.heap.size < w3.heap.size := by omega
  go_upto_region 3 with fail
  obtain ⟨w4, hw4⟩ : ∃ w4, w4 = w3.alloc (.cells #[.int .i64 (S m), .int .i64 (F m)] 39) := ⟨_, rfl⟩
  have HL4 : Hid (Blk w4 w3.heap.size 39 #[.int .i64 (S m), .int .i64 (F m)]) := Lib.hid (hw4 ▸ Blk.new _ _ _)
  have HB5 : Hid (Below w3.heap.size w3 w4) := Lib.hid (hw4 ▸ below_alloc _ _)
  rw [← hw4]
  clear hw4 cg q3 q4 hbw2 hgw2
  have hs4 := HL4.out.lt
  have HG4 := Lib.hid (HG3.out.below HB5.out (by omega))
  have HF4 := Lib.hid (HF3.out.below HB5.out (by omega))
  have HX4 := Lib.hid (HX3.out.below HB5.out (by omega))
  have HB6 := Lib.hid (HB4.out.trans (HB5.out.mono (by omega)))
  have cx0 : w4.cell? ⟨w2.heap.size, 0, none⟩ = some (.int .i64 (S 0)) := HX4.out.cell 0
  have cx1 : w4.cell? ⟨w2.heap.size, 1, none⟩ = some (.int .i64 (F 0)) := HX4.out.cell 1
  have cl0 : w4.cell? ⟨w3.heap.size, 0, none⟩ = some (.int .i64 (S m)) := HL4.out.cell 0
  have cl1 : w4.cell? ⟨w3.heap.size, 1, none⟩ = some (.int .i64 (F m)) := HL4.out.cell 1
  have cf0 : w4.cell? ⟨w.heap.size + 1, 0, none⟩ = some (.int .i64 0) := HF4.out.cell 0
  have cf1 : w4.cell? ⟨w.heap.size + 1, 1, none⟩ = some (.int .i64 0) := HF4.out.cell 1
  have hf0 := HF4.out.frozen 0
  have hf1 := HF4.out.frozen 1
  clear HG2 HF2 HB2 HG3 HF3 HB3 HB4 HB5 HX3
  by_cases h0 : s ≤ S 0
  · have hv := HFST.out h0
    have HV1 := Lib.hid hv.1
    have HV2 := Lib.hid hv.2
    clear hv
    go_wp2_with fail
    ((try simp only [Exit.inBlock, Exit.then]); refine bodyPost_ret (results_cell_row rfl _ _ _ 27 _ (0, 0) _ rfl ((HF4.out.set_ 0 (.int .i64 (F 0))).set_ 1 (.int .i64 (F 0))) Try.underlying27 rfl (by kernel_rfl)) rfl ?_)
    exact ⟨ret_val (by rw [HV1.out, HV2.out]; simp), (HB6.out.setCell (p := ⟨w.heap.size + 1, 0, none⟩) (by simp) _).setCell (p := ⟨w.heap.size + 1, 1, none⟩) (by simp) _⟩
  have h0' : S 0 < s := by omega
  by_cases hl : S m ≤ s
  · have hv := HLST.out hl
    have HV1 := Lib.hid hv.1
    have HV2 := Lib.hid hv.2
    clear hv
    go_wp2_with fail
    ((try simp only [Exit.inBlock, Exit.then]); refine bodyPost_ret (results_cell_row rfl _ _ _ 27 _ (0, 0) _ rfl ((HF4.out.set_ 0 (.int .i64 (F m))).set_ 1 (.int .i64 (F m))) Try.underlying27 rfl (by kernel_rfl)) rfl ?_)
    exact ⟨ret_val (by rw [HV1.out, HV2.out]; simp), (HB6.out.setCell (p := ⟨w.heap.size + 1, 0, none⟩) (by simp) _).setCell (p := ⟨w.heap.size + 1, 1, none⟩) (by simp) _⟩
  have hl' : s < S m := by omega
  clear HFST HLST
  -- between two points
  obtain ⟨k, hk⟩ : ∃ k, k = idx S s (m + 1) := ⟨_, rfl⟩
  have hkn : k ≤ m + 1 := hk ▸ idx_le S s (m + 1)
  have HT : Hid (∀ i, i < m + 1 → decide (s < S i) = decide (k ≤ i)) := Lib.hid fun i hi => hk ▸ idx_test HROW.out s hi
  have hk0 : ¬ k = 0 := fun e => by
    have := HT.out 0 (by omega)
    simp [e] at this
    omega
  have hkm : ¬ k = m + 1 := fun e => by
    have := HT.out m (by omega)
    simp [e] at this
    omega
  have hlo0 : lo = F (k - 1) + (F k - F (k - 1)) * (s - S (k - 1)) / (S k - S (k - 1)) := by rw [HLO.out, fLo, ← hk, if_neg hk0, if_neg hkm]
  have hhi0 : hi = F (k - 1) + ((F k - F (k - 1)) * (s - S (k - 1)) + (S k - S (k - 1)) - 1) / (S k - S (k - 1)) := by rw [HHI.out, fHi, ← hk, if_neg hk0, if_neg hkm]
  clear HLO HHI hk
  have HLO := Lib.hid hlo0
  have HHI := Lib.hid hhi0
  clear hlo0 hhi0
  obtain ⟨p, rfl⟩ : ∃ p, k = p + 1 := ⟨k - 1, by omega⟩
  have cg : w4.cell? ⟨w.heap.size, 5, none⟩ = some (.slice (some ⟨b, off, none⟩) (m + 1) c) := HG4.out.cell 5
  have HR4 := Lib.hid (HR.out.below (HB6.out.mono hB))
  go_wp2_with fail
  go_loop [7] (fun i => ∃ j : Nat, j ≤ p ∧ i = .int .i64 j) (fun i => p - (intOf i).toNat)
  case atStart => exact ⟨0, Nat.zero_le _, rfl⟩
  case round =>
    obtain ⟨j, hj, rfl⟩ := hrel
    have hjm : (j : Int) < m + 1 := by omega
    have hjm1 : (j : Int) + 1 < m + 1 := by omega
    obtain ⟨q1, _⟩ := HR4.out.here (k := j + 1) (by omega)
    by_cases hlt : j < p
    · have hle : S (j + 1) ≤ s := by
        have := HT.out (j + 1) (by omega)
        have h2 : decide (p + 1 ≤ j + 1) = false := by simp; omega
        rw [h2] at this
        simp at this
        exact this
      go_wp2_with fail
      go_round
      case rel => exact ⟨j + 1, by omega, by go_num⟩
      case measure => simp [intOf]; omega
    · obtain rfl : j = p := by omega
      have hgt : s < S (j + 1) := by
        have := HT.out (j + 1) (by omega)
        simp at this
        exact this
      obtain ⟨q3, q4⟩ := HR4.out.here (k := j + 1) (by omega)
      obtain ⟨q5, q6⟩ := HR4.out.here (k := j) (by omega)
      clear cx0 cx1 cl0 cl1 h0 h0' hl hl' cf0 cf1 hf0 hf1
      have hbw4 : b < w4.heap.size := by omega
      have hgw4 : w.heap.size < w4.heap.size := by omega
      go_upto_region 11 with fail
      obtain ⟨w5, hw5⟩ : ∃ w5, w5 = w4.alloc (.cells #[.int .i64 (S j), .int .i64 (F j)] 39) := ⟨_, rfl⟩
      have HA5 : Hid (Blk w5 w4.heap.size 39 #[.int .i64 (S j), .int .i64 (F j)]) := Lib.hid (hw5 ▸ Blk.new _ _ _)
      have HB5 : Hid (Below w4.heap.size w4 w5) := Lib.hid (hw5 ▸ below_alloc _ _)
      rw [← hw5]
      clear hw5 cg q1 q3 q4 q5 q6 hbw4 hgw4
      have hs5 := HA5.out.lt
      have HG5 := Lib.hid (HG4.out.below HB5.out (by omega))
      have HF5 := Lib.hid (HF4.out.below HB5.out (by omega))
      obtain ⟨q3, q4⟩ := (HR4.out.below (HB5.out.mono (by omega))).here (k := j + 1) (by omega)
      have cg : w5.cell? ⟨w.heap.size, 5, none⟩ = some (.slice (some ⟨b, off, none⟩) (m + 1) c) := HG5.out.cell 5
      have hbw5 : b < w5.heap.size := by omega
      have hgw5 : w.heap.size < w5.heap.size := by omega
      go_upto_region 12 with fail
      obtain ⟨w6, hw6⟩ : ∃ w6, w6 = w5.alloc (.cells #[.int .i64 (S (j + 1)), .int .i64 (F (j + 1))] 39) := ⟨_, rfl⟩
      have HN6 : Hid (Blk w6 w5.heap.size 39 #[.int .i64 (S (j + 1)), .int .i64 (F (j + 1))]) := Lib.hid (hw6 ▸ Blk.new _ _ _)
      have HB6' : Hid (Below w5.heap.size w5 w6) := Lib.hid (hw6 ▸ below_alloc _ _)
      rw [← hw6]
      clear hw6 cg q3 q4 hbw5 hgw5
      have HA6 := Lib.hid (HA5.out.below HB6'.out (by omega))
      have HF6 := Lib.hid (HF5.out.below HB6'.out (by omega))
      have HB7 : Hid (Below w.heap.size w w6) := Lib.hid (HB6.out.trans ((HB5.out.mono (by omega)).trans (HB6'.out.mono (by omega))))
      clear HB5 HB6 HB6' HG5 HF5 HG4 HF4 HX4 HL4 HA5
      have ca0 : w6.cell? ⟨w4.heap.size, 0, none⟩ = some (.int .i64 (S j)) := HA6.out.cell 0
      have ca1 : w6.cell? ⟨w4.heap.size, 1, none⟩ = some (.int .i64 (F j)) := HA6.out.cell 1
      have cb0 : w6.cell? ⟨w5.heap.size, 0, none⟩ = some (.int .i64 (S (j + 1))) := HN6.out.cell 0
      have cb1 : w6.cell? ⟨w5.heap.size, 1, none⟩ = some (.int .i64 (F (j + 1))) := HN6.out.cell 1
      have cf0 : w6.cell? ⟨w.heap.size + 1, 0, none⟩ = some (.int .i64 0) := HF6.out.cell 0
      have cf1 : w6.cell? ⟨w.heap.size + 1, 1, none⟩ = some (.int .i64 0) := HF6.out.cell 1
      have hf0 := HF6.out.frozen 0
      have hf1 := HF6.out.frozen 1
      obtain ⟨r2, r3⟩ := rows_in HROW.out (j := j) (by omega)
      obtain ⟨r4, r5⟩ := rows_in HROW.out (j := j + 1) (by omega)
      have hS := rows_rise HROW.out (j + 1) j (by omega) (by omega)
      have hF := rows_flow HROW.out (j + 1) j (by omega) (by omega)
      have hsp : S j ≤ s := by
        have := HT.out j (by omega)
        have h2 : decide (j + 1 ≤ j) = false := by simp
        rw [h2] at this
        simp at this
        exact this
      have hn0 : 0 ≤ (F (j + 1) - F j) * (s - S j) := Int.mul_nonneg (by omega) (by omega)
      have hn1 : (F (j + 1) - F j) * (s - S j) ≤ 1073741824 * 1048576 := Int.mul_le_mul (by omega) (by omega) (by omega) (by omega)
      have hmw : IntKind.i64.wrap ((F (j + 1) - F j) * (s - S j)) = (F (j + 1) - F j) * (s - S j) := IntWalk.i64_in _ ⟨by omega, by omega⟩
      go_upto_region 14 with fail
      obtain ⟨nn, hnn⟩ : ∃ nn, nn = (F (j + 1) - F j) * (s - S j) := ⟨_, rfl⟩
      obtain ⟨dd, hdd⟩ : ∃ dd, dd = S (j + 1) - S j := ⟨_, rfl⟩
      have hd0 : 0 < dd := by omega
      have hd1 : dd ≤ 1048576 := by omega
      have hnn0 : 0 ≤ nn := hnn ▸ hn0
      have hnn1 : nn ≤ 1073741824 * 1048576 := hnn ▸ hn1
      have hq0 : nn.tdiv dd = nn / dd := Int.tdiv_eq_ediv_of_nonneg hnn0
      have hr0 : (nn + dd - 1).tdiv dd = (nn + dd - 1) / dd := Int.tdiv_eq_ediv_of_nonneg (by omega)
      have hql : 0 ≤ nn / dd := Int.ediv_nonneg hnn0 (by omega)
      have hqu : nn / dd ≤ nn := Int.ediv_le_self _ hnn0
      have hrl : 0 ≤ (nn + dd - 1) / dd := Int.ediv_nonneg (by omega) (by omega)
      have hru : (nn + dd - 1) / dd ≤ nn + dd - 1 := Int.ediv_le_self _ (by omega)
      obtain ⟨q, hq⟩ : ∃ q, nn / dd = q := ⟨_, rfl⟩
      obtain ⟨rm, hrm⟩ : ∃ rm, (nn + dd - 1) / dd = rm := ⟨_, rfl⟩
      rw [hq] at hq0 hql hqu
      rw [hrm] at hr0 hrl hru
      have HL : Hid (lo = F j + q) := Lib.hid (by rw [HLO.out, Nat.add_sub_cancel, ← hnn, ← hdd, hq])
      have HH : Hid (hi = F j + rm) := Lib.hid (by rw [HHI.out, Nat.add_sub_cancel, ← hnn, ← hdd, hrm])
      have HB8 := Lib.hid (below_quiet HB7.out ⟨1, rfl⟩)
      rw [← hnn, ← hdd]
      have hdne : ¬ dd = 0 := by omega
      have hqw : IntKind.i64.wrap q = q := IntWalk.i64_in _ ⟨by omega, by omega⟩
      have hrw : IntKind.i64.wrap rm = rm := IntWalk.i64_in _ ⟨by omega, by omega⟩
      have hw1 : IntKind.i64.wrap (nn + dd) = nn + dd := IntWalk.i64_in _ ⟨by omega, by omega⟩
      have hw2 : IntKind.i64.wrap (nn + dd - 1) = nn + dd - 1 := IntWalk.i64_in _ ⟨by omega, by omega⟩
      have hw3 : IntKind.i64.wrap (F j + q) = F j + q := IntWalk.i64_in _ ⟨by omega, by omega⟩
      have hw4 : IntKind.i64.wrap (F j + rm) = F j + rm := IntWalk.i64_in _ ⟨by omega, by omega⟩
      clear hmw hn0 hn1 cb0 cb1 hnn hdd hq hrm r2 r3 r4 r5 hS hF hsp hgt
      go_region
      go_wp2_with fail
      ((try simp only [Exit.inBlock, Exit.then]); refine bodyPost_ret (results_cell_row rfl _ _ _ 27 _ (0, 0) _ rfl (((HF6.out.set_ 0 (.int .i64 (F j + q))).set_ 1 (.int .i64 (F j + rm))).drewN 1) Try.underlying27 rfl (by kernel_rfl)) rfl ?_)
      exact ⟨ret_val (by rw [HL.out, HH.out]; simp), below_quiet ((HB7.out.setCell (p := ⟨w.heap.size + 1, 0, none⟩) (by simp) _).setCell (p := ⟨w.heap.size + 1, 1, none⟩) (by simp) _) ⟨1, rfl⟩⟩
end Go.Proofs.Ytfddlodfmmnanaa
