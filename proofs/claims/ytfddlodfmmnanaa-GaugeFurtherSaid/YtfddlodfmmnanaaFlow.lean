/- Contract of flow. A right table. -/
import Derived.Test.YtfddlodfmmnanaaIdx
import Derived.Test.YtfddlodfmmnanaaRound
import Derived.RegionTactic
import Derived.Laws.Rows
import Derived.StillTailTactics
import Derived.Deep.DeepCutAuto
namespace Go.Proofs.Ytfddlodfmmnanaa
open Go.RowKit

set_option maxRecDepth 100000 in
set_option maxHeartbeats 2000000 in
theorem flow_20 (no rc cl dr si : Int) (A : Option Addr) (n c B : Nat) (S F : Nat → Int) (s : Int) (w : World) (hn : n ≠ 0) (hm : n ≤ 64) (hB : B ≤ w.heap.size) (hr : RdP w B A n S F) (hrow : rowsB S F n = true) :
    Calls Try.prog 20 #[gv no rc cl dr si A n c, .int .i64 s] w fun e w' => e = .returned (.agg #[.int .i64 (fLo S F n s), .int .i64 (fHi S F n s)]) ∧ Below w.heap.size w w' := by
  obtain ⟨b, off, rfl, hbB, _, _⟩ := hr.at_ (k := 0) (by omega)
  have HR := Lib.hid hr
  have HROW := Lib.hid hrow
  have hbw : b < w.heap.size := by omega
  obtain ⟨k, hk⟩ : ∃ k, k = idx S s n := ⟨_, rfl⟩
  have hkn : k ≤ n := hk ▸ idx_le S s n
  have hlo0 : fLo S F n s = if k = 0 then F 0 else if k = n then F (n - 1) else F (k - 1) + (F k - F (k - 1)) * (s - S (k - 1)) / (S k - S (k - 1)) := by rw [hk]; rfl
  have hhi0 : fHi S F n s = if k = 0 then F 0 else if k = n then F (n - 1) else F (k - 1) + ((F k - F (k - 1)) * (s - S (k - 1)) + (S k - S (k - 1)) - 1) / (S k - S (k - 1)) := by rw [hk]; rfl
  obtain ⟨lo, hlo⟩ : ∃ lo, lo = fLo S F n s := ⟨_, rfl⟩
  obtain ⟨hi, hhi⟩ : ∃ hi, hi = fHi S F n s := ⟨_, rfl⟩
  rw [← hlo, ← hhi]
  have HLO := Lib.hid (hlo.trans hlo0)
  have HHI := Lib.hid (hhi.trans hhi0)
  clear hlo hlo0 hhi hhi0
  have HT : Hid (∀ i, i < n → decide (s < S i) = decide (k ≤ i)) := Lib.hid fun i hi => hk ▸ idx_test hrow s hi
  have HK1 : Hid (∀ j, j < k → S j ≤ s) := Lib.hid (hk ▸ idx_below S s n)
  have HK2 : Hid (k < n → s < S k) := Lib.hid (hk ▸ idx_at S s n)
  clear hr hrow hk
  unfold gv
  go_enter Try.func20, Try.ntmps20
  go_wp2_with fail
  obtain ⟨w0, hw0⟩ : ∃ w0, w0 = ((w.alloc (.cells #[.int .i64 no, .int .i64 rc, .int .i64 cl, .int .i64 dr, .int .i64 si, .slice (some ⟨b, off, none⟩) n c] 24)).alloc (.cells #[.int .i64 s] 3)).alloc (.cells #[.int .i64 0, .int .i64 0] 27) := ⟨_, rfl⟩
  have HG0 : Hid (Blk w0 w.heap.size 24 #[.int .i64 no, .int .i64 rc, .int .i64 cl, .int .i64 dr, .int .i64 si, .slice (some ⟨b, off, none⟩) n c]) := Lib.hid (hw0 ▸ ((Blk.new _ _ _).alloc _).alloc _)
  have HS0 : Hid (Blk w0 (w.heap.size + 1) 3 #[.int .i64 s]) := Lib.hid (by have := (Blk.new (w.alloc (.cells #[.int .i64 no, .int .i64 rc, .int .i64 cl, .int .i64 dr, .int .i64 si, .slice (some ⟨b, off, none⟩) n c] 24)) 3 #[.int .i64 s]).alloc (.cells #[.int .i64 0, .int .i64 0] 27); rw [World.size_alloc] at this; rw [hw0]; exact this)
  have HF0 : Hid (Blk w0 (w.heap.size + 1 + 1) 27 #[.int .i64 0, .int .i64 0]) := Lib.hid (by have := Blk.new ((w.alloc (.cells #[.int .i64 no, .int .i64 rc, .int .i64 cl, .int .i64 dr, .int .i64 si, .slice (some ⟨b, off, none⟩) n c] 24)).alloc (.cells #[.int .i64 s] 3)) 27 #[.int .i64 0, .int .i64 0]; rw [World.size_alloc, World.size_alloc] at this; rw [hw0]; exact this)
  have HB0 : Hid (Below w.heap.size w w0) := Lib.hid (by rw [hw0]; (repeat (first | exact Below.refl _ _ | exact below_alloc _ _ | refine Below.alloc ?_ (by simp; omega) _ | refine Below.alloc ?_ (by simp) _)))
  have hs0 := HF0.out.lt
  rw [← hw0]
  clear hw0
  have eg : ∀ args w, (callFunc 29 args).run Try.prog w = .ok (.enter 29 args) w := enters_of Try.func29 (by kernel_rfl) rfl
  refine (search 29 _ n k w0 eg (by omega) hkn (fun W i hW hi => ((above_29 i _ _ b off n c _ _ _ _ _ S F s W B hi (HG0.out.below hW (by omega)) (HS0.out.below hW (by omega)) (HR.out.below (HB0.out.trans (hW.mono (by omega)) |>.mono hB))).mono (fun e W' h => ⟨h.1.trans (ret_bool (HT.out i hi)), below_quiet (Below.refl _ _) h.2⟩)))).mono ?_
  rintro e w1 ⟨rfl, hb1⟩
  have HB1 := Lib.hid (HB0.out.trans (hb1.mono (by omega)))
  have HG1 := Lib.hid (HG0.out.below hb1 (by omega))
  have HS1 := Lib.hid (HS0.out.below hb1 (by omega))
  have HF1 := Lib.hid (HF0.out.below hb1 hs0)
  have HR1 := Lib.hid (HR.out.below (HB1.out.mono hB))
  have hs1 := HF1.out.lt
  clear hb1 HG0 HS0 HF0 HB0 hs0 eg
  have cg : w1.cell? ⟨w.heap.size, 5, none⟩ = some (.slice (some ⟨b, off, none⟩) n c) := HG1.out.cell 5
  have cs : w1.cell? ⟨w.heap.size + 1, 0, none⟩ = some (.int .i64 s) := HS1.out.cell 0
  have cf0 : w1.cell? ⟨w.heap.size + 1 + 1, 0, none⟩ = some (.int .i64 0) := HF1.out.cell 0
  have cf1 : w1.cell? ⟨w.heap.size + 1 + 1, 1, none⟩ = some (.int .i64 0) := HF1.out.cell 1
  have hf0 := HF1.out.frozen 0
  have hf1 := HF1.out.frozen 1
  have hn' : (0 : Int) < n := by omega
  by_cases hk0 : k = 0
  · subst hk0
    obtain ⟨q1, q2⟩ := HR1.out.here (k := 0) (by omega)
    simp only [Nat.zero_mul, Nat.add_zero] at q1 q2
    have hnz : ((0 : Int) == n) = false := by rw [beq_eq_false_iff_ne]; omega
    go_wp2_with fail
    go_region
    go_wp2_with fail
    ((try simp only [Exit.inBlock, Exit.then]); refine bodyPost_ret (results_cell_row rfl _ _ _ 27 _ (0, 0) _ rfl (((HF1.out.set_ 0 (.int .i64 (F 0))).set_ 1 (.int .i64 (F 0))).drewN 1) Try.underlying27 rfl (by kernel_rfl)) rfl ?_)
    exact ⟨ret_val (by rw [HLO.out, HHI.out]; simp), below_quiet (((HB1.out.setCell (p := ⟨w.heap.size + 1 + 1, 0, none⟩) (by simp; omega) _)).setCell (p := ⟨w.heap.size + 1 + 1, 1, none⟩) (by simp; omega) _) ⟨1, rfl⟩⟩
  · by_cases hkn : k = n
    · subst hkn
      obtain ⟨p, rfl⟩ : ∃ p, k = p + 1 := ⟨k - 1, by omega⟩
      obtain ⟨q1, q2⟩ := HR1.out.here (k := p) (by omega)
      have hkz : ((p + 1 : Nat) : Int) - 1 = p := by omega
      have hnz : (((p + 1 : Nat) : Int) == 0) = false := by rw [beq_eq_false_iff_ne]; omega
      go_wp2_with fail
      go_region
      go_wp2_with fail
      ((try simp only [Exit.inBlock, Exit.then]); refine bodyPost_ret (results_cell_row rfl _ _ _ 27 _ (0, 0) _ rfl (((HF1.out.set_ 0 (.int .i64 (F p))).set_ 1 (.int .i64 (F p))).drewN 1) Try.underlying27 rfl (by kernel_rfl)) rfl ?_)
      exact ⟨ret_val (by rw [HLO.out, HHI.out]; simp), below_quiet (((HB1.out.setCell (p := ⟨w.heap.size + 1 + 1, 0, none⟩) (by simp; omega) _)).setCell (p := ⟨w.heap.size + 1 + 1, 1, none⟩) (by simp; omega) _) ⟨1, rfl⟩⟩
    · obtain ⟨p, rfl⟩ : ∃ p, k = p + 1 := ⟨k - 1, by omega⟩
      obtain ⟨q1, q2⟩ := HR1.out.here (k := p) (by omega)
      obtain ⟨q3, q4⟩ := HR1.out.here (k := p + 1) (by omega)
      have hkz : ((p + 1 : Nat) : Int) - 1 = p := by omega
      have hnz : (((p + 1 : Nat) : Int) == 0) = false := by rw [beq_eq_false_iff_ne]; omega
      have hnz : (((p + 1 : Nat) : Int) == n) = false := by rw [beq_eq_false_iff_ne]; omega
      have hgw1 : w.heap.size < w1.heap.size := HG1.out.lt
      have hsw1 : w.heap.size + 1 < w1.heap.size := HS1.out.lt
      have hbb1 : b < w1.heap.size := by omega
      have hpw : IntKind.i64.wrap (p : Int) = p := IntWalk.i64_in _ ⟨by omega, by omega⟩
      have r0 := rows_in HROW.out (j := p) (by omega)
      have r1 := rows_in HROW.out (j := p + 1) (by omega)
      have hS := rows_rise HROW.out (p + 1) p (by omega) (by omega)
      have hF := rows_flow HROW.out (p + 1) p (by omega) (by omega)
      have hsp := HK1.out p (by omega)
      have hsn := HK2.out (by omega)
      obtain ⟨r2, r3⟩ := r0
      obtain ⟨r4, r5⟩ := r1
      have hn0 : 0 ≤ (F (p + 1) - F p) * (s - S p) := Int.mul_nonneg (by omega) (by omega)
      have hn1 : (F (p + 1) - F p) * (s - S p) ≤ 1073741824 * 1048576 := Int.mul_le_mul (by omega) (by omega) (by omega) (by omega)
      have hmw : IntKind.i64.wrap ((F (p + 1) - F p) * (s - S p)) = (F (p + 1) - F p) * (s - S p) := IntWalk.i64_in _ ⟨by omega, by omega⟩
      obtain ⟨nn, hnn⟩ : ∃ nn, nn = (F (p + 1) - F p) * (s - S p) := ⟨_, rfl⟩
      obtain ⟨dd, hdd⟩ : ∃ dd, dd = S (p + 1) - S p := ⟨_, rfl⟩
      have hd0 : 0 < dd := by omega
      have hd1 : dd ≤ 1048576 := by omega
      have hnn0 : 0 ≤ nn := hnn ▸ hn0
      have hnn1 : nn ≤ 1073741824 * 1048576 := hnn ▸ hn1
      have hq0 : nn.tdiv dd = nn / dd := Int.tdiv_eq_ediv_of_nonneg hnn0
      have hr0 : nn.tmod dd = nn % dd := Int.tmod_eq_emod_of_nonneg hnn0
      have hql : 0 ≤ nn / dd := Int.ediv_nonneg hnn0 (by omega)
      have hqu : nn / dd ≤ nn := Int.ediv_le_self _ hnn0
      have hrl : 0 ≤ nn % dd := Int.emod_nonneg _ (by omega)
      have hru : nn % dd < dd := Int.emod_lt_of_pos _ hd0
      have hdz : (dd == 0) = false := by rw [beq_eq_false_iff_ne]; omega
      have HC := Lib.hid (ceil_law (a := nn) hd0)
      obtain ⟨q, hq⟩ : ∃ q, nn / dd = q := ⟨_, rfl⟩
      obtain ⟨rm, hrm⟩ : ∃ rm, nn % dd = rm := ⟨_, rfl⟩
      rw [hq] at hq0 hql hqu HC
      rw [hrm] at hr0 hrl hru HC
      have hkz0 : ¬ p + 1 = 0 := by omega
      have HL : Hid (lo = F p + q) := Lib.hid (by rw [HLO.out, if_neg hkz0, if_neg hkn, Nat.add_sub_cancel, ← hnn, ← hdd, hq])
      have HH : Hid (hi = F p + (q + if 0 < rm then 1 else 0)) := Lib.hid (by rw [HHI.out, if_neg hkz0, if_neg hkn, Nat.add_sub_cancel, ← hnn, ← hdd, HC.out])
      have HNN := Lib.hid hnn
      have HDD := Lib.hid hdd
      have HQ := Lib.hid hq
      clear hnn hdd hq hrm
      go_upto_region 7 with fail
      go_cut [6, 7] (fun s6 s7 wc => ∃ ga gb, s6 = .pointer (some ⟨ga, 0, none⟩) ∧ s7 = .pointer (some ⟨gb, 0, none⟩) ∧ w1.heap.size ≤ ga ∧ w1.heap.size ≤ gb ∧ Blk wc ga 39 #[.int .i64 (S p), .int .i64 (F p)] ∧ Blk wc gb 39 #[.int .i64 (S (p + 1)), .int .i64 (F (p + 1))] ∧ Below w1.heap.size w1 wc)
      case first =>
        go_region
        · go_wp2_with fail
          go_meet
          case rel =>
            have h1 := (((Blk.new w1 39 #[.int .i64 (S p), .int .i64 (F p)]).alloc (.cells #[.int .i64 (S (p + 1)), .int .i64 (F (p + 1))] 39)).drewN 1)
            have h2 := ((Blk.new (w1.alloc (.cells #[.int .i64 (S p), .int .i64 (F p)] 39)) 39  #[.int .i64 (S (p + 1)), .int .i64 (F (p + 1))]).drewN 1)
            rw [World.size_alloc] at h2
            exact ⟨_, _, rfl, rfl, by omega, by omega, h1, h2, below_quiet (by (repeat (first | exact Below.refl _ _ | exact below_alloc _ _ | refine Below.alloc ?_ (by simp; omega) _ | refine Below.alloc ?_ (by simp) _))) ⟨1, rfl⟩⟩
        · go_wp2_with fail
          go_meet
          case rel =>
            have h1 := (((Blk.new w1 39 #[.int .i64 (S (p + 1)), .int .i64 (F (p + 1))]).alloc (.cells #[.int .i64 (S p), .int .i64 (F p)] 39)).drewN 1)
            have h2 := ((Blk.new (w1.alloc (.cells #[.int .i64 (S (p + 1)), .int .i64 (F (p + 1))] 39)) 39  #[.int .i64 (S p), .int .i64 (F p)]).drewN 1)
            rw [World.size_alloc] at h2
            exact ⟨_, _, rfl, rfl, by omega, by omega, h2, h1, below_quiet (by (repeat (first | exact Below.refl _ _ | exact below_alloc _ _ | refine Below.alloc ?_ (by simp; omega) _ | refine Below.alloc ?_ (by simp) _))) ⟨1, rfl⟩⟩
      case rest =>
        obtain ⟨ga, gb, rfl, rfl, hga, hgb, hA, hN, hb2⟩ := hcut
        have HA := Lib.hid hA
        have HN := Lib.hid hN
        have HB2 := Lib.hid hb2
        have HS2 := Lib.hid (HS1.out.below hb2 (by omega))
        have HF2 := Lib.hid (HF1.out.below hb2 hs1)
        clear hA hN hb2 cg cs cf0 cf1 hf0 hf1 hbb1 q1 q2 q3 q4
        have ca0 : wc.cell? ⟨ga, 0, none⟩ = some (.int .i64 (S p)) := HA.out.cell 0
        have ca1 : wc.cell? ⟨ga, 1, none⟩ = some (.int .i64 (F p)) := HA.out.cell 1
        have cb0 : wc.cell? ⟨gb, 0, none⟩ = some (.int .i64 (S (p + 1))) := HN.out.cell 0
        have cb1 : wc.cell? ⟨gb, 1, none⟩ = some (.int .i64 (F (p + 1))) := HN.out.cell 1
        have cs2 : wc.cell? ⟨w.heap.size + 1, 0, none⟩ = some (.int .i64 s) := HS2.out.cell 0
        go_wp2_with fail
        go_quiet (fail)
        rw [← HNN.out, ← HDD.out]
        have HA3 := Lib.hid (HA.out.drewN nq)
        have HF3 := Lib.hid (HF2.out.drewN nq)
        have HB3 := Lib.hid (below_quiet HB2.out ⟨nq, rfl⟩)
        clear hmw hn0 hn1 cs2 ca0 ca1 cb0 cb1
        generalize wc.drewN nq = w3 at HA3 HF3 HB3 ⊢
        have hA3 := HA3.out.lt
        have hF3 := HF3.out.lt
        have hs3 := HB3.out.size
        have ca1 : w3.cell? ⟨ga, 1, none⟩ = some (.int .i64 (F p)) := HA3.out.cell 1
        have hdne : ¬ dd = 0 := by omega
        have hqw : IntKind.i64.wrap q = q := IntWalk.i64_in _ ⟨by omega, by omega⟩
        go_wp2_with fail
        go_region 
        have HX4 : Hid (Blk (w3.alloc (.cells #[.int .i64 (F p + q), .int .i64 (F p + q)] 27)).drew w3.heap.size 27 #[.int .i64 (F p + q), .int .i64 (F p + q)]) := Lib.hid ((Blk.new _ _ _).drewN 1)
        have HF4 : Hid (Blk (w3.alloc (.cells #[.int .i64 (F p + q), .int .i64 (F p + q)] 27)).drew (w.heap.size + 1 + 1) 27 #[.int .i64 0, .int .i64 0]) := Lib.hid ((HF3.out.alloc _).drewN 1)
        have HB4 : Hid (Below w3.heap.size w3 (w3.alloc (.cells #[.int .i64 (F p + q), .int .i64 (F p + q)] 27)).drew) := Lib.hid (below_alloc _ _).drew
        generalize (w3.alloc (.cells #[.int .i64 (F p + q), .int .i64 (F p + q)] 27)).drew = w4 at HX4 HF4 HB4 ⊢
        have cx0 : w4.cell? ⟨w3.heap.size, 0, none⟩ = some (.int .i64 (F p + q)) := HX4.out.cell 0
        have cx1 : w4.cell? ⟨w3.heap.size, 1, none⟩ = some (.int .i64 (F p + q)) := HX4.out.cell 1
        have fx1 := HX4.out.frozen 1
        have ff0 := HF4.out.frozen 0
        have ff1 := HF4.out.frozen 1
        have cf0 : w4.cell? ⟨w.heap.size + 1 + 1, 0, none⟩ = some (.int .i64 0) := HF4.out.cell 0
        have cf1 : w4.cell? ⟨w.heap.size + 1 + 1, 1, none⟩ = some (.int .i64 0) := HF4.out.cell 1
        have HBw : Hid (Below w.heap.size w w4) := Lib.hid (HB1.out.trans ((HB3.out.mono (by omega)).trans (HB4.out.mono (by omega))))
        have hb1 : 0 ≤ F p + q := by omega
        have hb2 : F p + q ≤ 4611686018427387904 := by omega
        clear r2 r3 r4 r5 hS hF hsp hsn hnn0 hnn1 hq0 hql hqu hru hd0 hd1 hqw ca1 hA3
        generalize hfq : F p + q = fq at *
        have HFQ := Lib.hid hfq
        clear hfq
        by_cases hrp : 0 < rm
        · have HI : Hid (hi = fq + 1) := Lib.hid (by rw [HH.out, if_pos hrp, ← HFQ.out]; omega)
          have hne : ¬ w3.heap.size = w.heap.size + 1 + 1 := by omega
          have hne' : ¬ w.heap.size + 1 + 1 = w3.heap.size := by omega
          go_wp2_with fail
          ((try simp only [Exit.inBlock, Exit.then]); refine bodyPost_ret (results_cell_row rfl _ _ _ 27 _ (0, 0) _ rfl ((((HF4.out.far (p := ⟨w3.heap.size, 1, none⟩) (by simp; omega) (.int .i64 (fq + 1))).set_ 0 (.int .i64 fq)).set_ 1 (.int .i64 (fq + 1)))) Try.underlying27 rfl (by kernel_rfl)) rfl ?_)
          exact ⟨ret_val (by rw [HL.out, HI.out]; simp), ((HBw.out.setCell (p := ⟨w3.heap.size, 1, none⟩) (by simp; omega) _).setCell (p := ⟨w.heap.size + 1 + 1, 0, none⟩) (by simp; omega) _).setCell (p := ⟨w.heap.size + 1 + 1, 1, none⟩) (by simp; omega) _⟩
        · have HI : Hid (hi = fq) := Lib.hid (by rw [HH.out, if_neg hrp, ← HFQ.out]; omega)
          have hrz : rm = 0 := by omega
          go_wp2_with fail
          ((try simp only [Exit.inBlock, Exit.then]); refine bodyPost_ret (results_cell_row rfl _ _ _ 27 _ (0, 0) _ rfl ((HF4.out.set_ 0 (.int .i64 fq)).set_ 1 (.int .i64 fq)) Try.underlying27 rfl (by kernel_rfl)) rfl ?_)
          exact ⟨ret_val (by rw [HL.out, HI.out]; simp), (HBw.out.setCell (p := ⟨w.heap.size + 1 + 1, 0, none⟩) (by simp; omega) _).setCell (p := ⟨w.heap.size + 1 + 1, 1, none⟩) (by simp; omega) _⟩
end Go.Proofs.Ytfddlodfmmnanaa
