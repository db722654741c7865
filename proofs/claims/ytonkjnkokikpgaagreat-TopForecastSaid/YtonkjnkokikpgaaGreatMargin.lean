/- Contracts of calibrate's Within and Margin. -/
import Derived.Test.YtonkjnkokikpgaaGreatFails
import Derived.Test.YtonkjnkokikpgaaGreatKeeps
import Derived.Test.YtonkjnkokikpgaaGreatSorted
import Derived.Test.YtonkjnkokikpgaaGreatApp
namespace Go.Proofs.YtonkjnkokikpgaaGreat
open Go.RowKit

/-- with the bounds widened by m: is the body within the budget? -/
def kpP (n : Nat) (p : PastF) (b fa of_ m : Int) : Bool := kpE (fun j => decide (m < dlF p b n j)) of_.toNat fa (trP p b n).length

set_option maxRecDepth 100000 in
set_option maxHeartbeats 4000000 in
theorem Within_21 (A : Option Addr) (n c B : Nat) (p : PastF) (b fa of_ : Int) (w : World) (hg : DGood n p b fa of_) (hB : B ≤ w.heap.size) (hr : PastRd w B A n p) :
    Calls Tryz.prog 21 #[.slice A n c, .int .i64 b, .agg #[.int .i64 fa, .int .i64 of_]] w fun e w' => e = .returned (.tuple #[.bool (kpP n p b fa of_ 0), .int .i64 0]) ∧ Below w.heap.size w w' := by
  have hn : n ≤ 256 := hg.1.1
  have HDI : Hid (∀ W, Below w.heap.size w W → Calls Tryz.prog 18 #[.slice A n c, .int .i64 b, .agg #[.int .i64 fa, .int .i64 of_]] W fun e w' => DisR n p b fa of_ e w' ∧ Below W.heap.size W w') := Lib.hid fun W h => distances_18 A n c B p b fa of_ W (by omega) (by have := h.size; omega) (hr.below (h.mono hB))
  have HG := Lib.hid hg
  have hlen : (trP p b n).length ≤ 4096 := by
    have h1 := trP_len p b (fun j hj => (hg.1.2 j hj).2.1.2) n (Nat.le_refl _)
    omega
  have HLEN := Lib.hid hlen
  obtain ⟨o, ho⟩ : ∃ o : Nat, of_ = o := ⟨of_.toNat, by have := hg.2.2.1; omega⟩
  have ho1 : 1 ≤ o ∧ o ≤ 4096 := by have := hg.2.2.1; omega
  subst ho
  have HV : Hid (kpP n p b fa o 0 = kpE (fun j => decide (0 < dlF p b n j)) o fa (trP p b n).length) := Lib.hid (by unfold kpP; rw [Int.toNat_natCast])
  generalize kpP n p b fa o 0 = v at HV ⊢
  clear hg hr hlen
  obtain ⟨w0, hw0⟩ : ∃ zz, zz = w.alloc (.cells #[.int .i64 fa, .int .i64 (o : Int)] 25) := ⟨_, rfl⟩
  have HK0 : Hid (Blk w0 w.heap.size 25 #[.int .i64 fa, .int .i64 (o : Int)]) := Lib.hid (hw0 ▸ Blk.new _ _ _)
  have HB0 : Hid (Below w.heap.size w w0) := Lib.hid (hw0 ▸ below_alloc _ _)
  have HW := Lib.hid hw0
  clear hw0
  have c0 : w0.cell? ⟨w.heap.size, 0, none⟩ = some (.int .i64 fa) := HK0.out.cell 0
  have c1 : w0.cell? ⟨w.heap.size, 1, none⟩ = some (.int .i64 (o : Int)) := HK0.out.cell 1
  go_enter Tryz.func21, Tryz.ntmps21
  go_upto_region 1 with fail
  rw [← HW.out]
  clear HW
  go_wp2_with fail
  refine (HDI.out _ HB0.out).mono ?_
  rintro e w1 ⟨⟨D, L, dc, E, rfl, hE, hL, hd⟩, hb⟩
  obtain rfl : E = 0 := hE.2 HG.out
  have HL := Lib.hid (hL rfl)
  have HDR := Lib.hid hd
  have HB1 := Lib.hid (HB0.out.trans (hb.mono HB0.out.size))
  have HK1 := Lib.hid (HK0.out.below hb HK0.out.lt)
  clear hE hL hd hb HB0 HK0 HDI c0 c1
  have c0 : w1.cell? ⟨w.heap.size, 0, none⟩ = some (.int .i64 fa) := HK1.out.cell 0
  have c1 : w1.cell? ⟨w.heap.size, 1, none⟩ = some (.int .i64 (o : Int)) := HK1.out.cell 1
  have HKP := Lib.hid (keeps_20 D L dc w1.heap.size o (dlF p b n) fa 0 w1 (by rw [HL.out]; exact HLEN.out) ho1 (Nat.le_refl _) HDR.out)
  rw [HL.out, ← HV.out, ← HL.out] at HKP
  go_wp2_with fail
  refine HKP.out.mono ?_
  rintro e w2 ⟨rfl, hb⟩
  have HB2 := Lib.hid (HB1.out.trans (hb.mono HB1.out.size))
  clear hb
  go_wp2_with fail
  refine bodyPost_ret (results_tmp2 rfl _ _ _) rfl ?_
  exact ⟨rfl, HB2.out⟩

/-- the distances lie between 0 and the greatest number -/
theorem trI_range (p : PastF) (i : Nat) (h1 : ∀ k, k < p.rn i → 0 ≤ (p.rf i k).1 ∧ (p.rf i k).1 ≤ (p.rf i k).2 ∧ (p.rf i k).2 ≤ 1099511627776) (h2 : ∀ k, k < p.rn i → 0 ≤ p.sv i k ∧ p.sv i k ≤ 1099511627776) : ∀ m, m ≤ p.rn i → ∀ x ∈ trI p i m, 0 ≤ x.2.2 ∧ x.2.2 ≤ 1099511627776
  | 0, _, x, hx => by cases hx
  | m + 1, hm, x, hx => by
    rw [trI, List.mem_append] at hx
    rcases hx with hx | hx
    · exact trI_range p i h1 h2 m (by omega) x hx
    · obtain rfl : x = _ := by simpa using hx
      have := h1 m (by omega)
      have := h2 m (by omega)
      simp only [dst]
      omega
theorem trP_range {n : Nat} {p : PastF} (b : Int) (hg : PGood n p) : ∀ m, m ≤ n → ∀ x ∈ trP p b m, 0 ≤ x.2.2 ∧ x.2.2 ≤ 1099511627776
  | 0, _, x, hx => by cases hx
  | m + 1, hm, x, hx => by
    rw [trP, List.mem_append] at hx
    rcases hx with hx | hx
    · exact trP_range b hg m (by omega) x hx
    · obtain ⟨_, _, h3, h4, h5⟩ := hg.2 m (by omega)
      split at hx
      · exact trI_range p m h4 (fun k hk => h5 k (by omega)) _ (Nat.le_refl _) x hx
      · cases hx
theorem dlF_range {n : Nat} {p : PastF} (b : Int) (hg : PGood n p) {j : Nat} (hj : j < (trP p b n).length) : 0 ≤ dlF p b n j ∧ dlF p b n j ≤ 1099511627776 := by
  unfold dlF
  have h := trP_range b hg n (Nat.le_refl _) (trP p b n)[j] (List.getElem_mem hj)
  simpa [List.getD, hj] using h
/-- one of finitely many is the greatest -/
theorem ex_max (f : Nat → Int) : ∀ n, 0 < n → ∃ j, j < n ∧ ∀ i, i < n → f i ≤ f j
  | 0, h => absurd h (by omega)
  | 1, _ => ⟨0, by omega, fun i hi => by obtain rfl : i = 0 := by omega
                                         omega⟩
  | n + 2, _ => by
    obtain ⟨j, hj, h⟩ := ex_max f (n + 1) (by omega)
    by_cases e : f j ≤ f (n + 1)
    · exact ⟨n + 1, by omega, fun i hi => by
        by_cases e2 : i = n + 1
        · subst e2; omega
        · have := h i (by omega); omega⟩
    · exact ⟨j, by omega, fun i hi => by
        by_cases e2 : i = n + 1
        · subst e2; omega
        · exact h i (by omega)⟩
/-- a number ahead of a row -/
def consF (f : Nat → Int) (j : Nat) : Int := if j = 0 then 0 else f (j - 1)
theorem rowOf_cons (f : Nat → Int) (n : Nat) : [Value.int .i64 0] ++ rowOf f n = rowOf (consF f) (1 + n) := by
  induction n with
  | zero => simp [rowOf, consF]
  | succ n ih =>
    rw [← rowOf_succ, ← List.append_assoc, ih, show 1 + (n + 1) = (1 + n) + 1 by omega, ← rowOf_succ (consF f) (1 + n)]
    congr 3
    unfold consF
    rw [if_neg (by omega), show 1 + n - 1 = n by omega]
theorem own_first {W : World} {g base : Nat} {v : Value} (hg : Blk W g 3 #[v]) (hb : base ≤ g) : W.ownsRow base 3 1 (.slice (some ⟨g, 0, none⟩) 1 1) 1 [v] :=
  ⟨by simp, .inr ⟨g, 1, #[v], rfl, hb, hg, Nat.le_refl _, by unfold maxLen; omega, by simp, by simp⟩⟩

/-- nothing, or the distance of some trial -/
def InDist (n : Nat) (p : PastF) (b m : Int) : Prop := m = 0 ∨ ∃ j, j < (trP p b n).length ∧ m = dlF p b n j
/-- what Margin hands back -/
def MarR (n : Nat) (p : PastF) (b fa of_ : Int) (e : Ending) : Prop := ∃ m E : Int, e = .returned (.tuple #[.int .i64 m, .int .i64 E]) ∧ (E = 0 ↔ DGood n p b fa of_) ∧ (E = 0 → ((0 ≤ m ∧ m ≤ 1099511627776) ∧ kpP n p b fa of_ m = true) ∧ InDist n p b m)

set_option maxRecDepth 100000 in
set_option maxHeartbeats 4000000 in
theorem Margin_7 (A : Option Addr) (n c B : Nat) (p : PastF) (b fa of_ : Int) (w : World) (hn : n ≤ 9223372036854775807) (hB : B ≤ w.heap.size) (hr : PastRd w B A n p) :
    Calls Tryz.prog 7 #[.slice A n c, .int .i64 b, .agg #[.int .i64 fa, .int .i64 of_]] w fun e w' => MarR n p b fa of_ e ∧ Below w.heap.size w w' := by
  have HDI : Hid (∀ W, Below w.heap.size w W → Calls Tryz.prog 18 #[.slice A n c, .int .i64 b, .agg #[.int .i64 fa, .int .i64 of_]] W fun e w' => DisR n p b fa of_ e w' ∧ Below W.heap.size W w') := Lib.hid fun W h => distances_18 A n c B p b fa of_ W hn (by have := h.size; omega) (hr.below (h.mono hB))
  clear hr hn
  obtain ⟨w0, hw0⟩ : ∃ zz, zz = w.alloc (.cells #[.int .i64 fa, .int .i64 of_] 25) := ⟨_, rfl⟩
  have HK0 : Hid (Blk w0 w.heap.size 25 #[.int .i64 fa, .int .i64 of_]) := Lib.hid (hw0 ▸ Blk.new _ _ _)
  have HB0 : Hid (Below w.heap.size w w0) := Lib.hid (hw0 ▸ below_alloc _ _)
  have HW := Lib.hid hw0
  clear hw0
  have c0 : w0.cell? ⟨w.heap.size, 0, none⟩ = some (.int .i64 fa) := HK0.out.cell 0
  have c1 : w0.cell? ⟨w.heap.size, 1, none⟩ = some (.int .i64 of_) := HK0.out.cell 1
  go_enter Tryz.func7, Tryz.ntmps7
  go_upto_region 1 with fail
  rw [← HW.out]
  clear HW
  go_wp2_with fail
  refine (HDI.out _ HB0.out).mono ?_
  rintro e w1 ⟨⟨D, L, dc, E, rfl, hE, hL, hd⟩, hb⟩
  have HE := Lib.hid hE
  have HLL := Lib.hid hL
  have HDR := Lib.hid hd
  have HB1 := Lib.hid (HB0.out.trans (hb.mono HB0.out.size))
  have HK1 := Lib.hid (HK0.out.below hb HK0.out.lt)
  clear hE hL hd hb HB0 HK0 HDI c0 c1
  by_cases h1 : ¬ E = 0
  · have h1e : (E != 0) = true := by simpa using h1
    have H1 := Lib.hid h1
    clear h1
    go_wp2_with fail
    refine bodyPost_ret (results_tmp2 rfl _ _ _) rfl ?_
    exact ⟨⟨0, E, rfl, HE.out, fun h => absurd h H1.out⟩, HB1.out⟩
  obtain rfl : E = 0 := by omega
  have HG := Lib.hid (HE.out.1 rfl)
  have HL := Lib.hid (HLL.out rfl)
  have hlen : L ≤ 4096 := by
    have h1 := trP_len p b (fun j hj => (HG.out.1.2 j hj).2.1.2) n (Nat.le_refl _)
    have h2 := HG.out.1.1
    have h3 := HL.out
    omega
  obtain ⟨o, ho⟩ : ∃ o : Nat, of_ = o := ⟨of_.toNat, by have := HG.out.2.2.1; omega⟩
  have ho1 : 1 ≤ o ∧ o ≤ 4096 := by have := HG.out.2.2.1; omega
  have hfa : 0 ≤ fa := HG.out.2.2.2.1
  subst ho
  have HV : Hid (∀ m, kpP n p b fa o m = kpE (fun j => decide (m < dlF p b n j)) o fa L) := Lib.hid fun m => by unfold kpP; rw [Int.toNat_natCast, HL.out]
  have HRG : Hid (∀ j, j < L → 0 ≤ dlF p b n j ∧ dlF p b n j ≤ 1099511627776) := Lib.hid fun j hj => dlF_range b HG.out.1 (by rw [← HL.out]; exact hj)
  have HMB : Hid (∀ i, i < 1 + L → InDist n p b (consF (dlF p b n) i)) := Lib.hid fun i hi => by
    unfold consF
    split
    · exact .inl rfl
    · exact .inr ⟨i - 1, by rw [← HL.out]; omega, rfl⟩
  clear HE HLL HL
  generalize dlF p b n = d at *
  obtain ⟨i0, hif, hz0, hz1, hz2⟩ := info_parts info3
  have HNW : Hid (∀ W, Below w1.heap.size w1 W → ∀ a, D = some a → ∀ j u, (rowOf d L)[j]? = some u → W.cell? (a.add j) = some u) := Lib.hid fun W hW a ha j u hu => by
    have hj : j < L := by
      rcases Nat.lt_or_ge j L with h | h
      · exact h
      · rw [List.getElem?_eq_none (by simp [rowOf]; omega)] at hu; cases hu
    rw [rowOf_at d L j hj] at hu
    injection hu with hu
    subst hu
    obtain ⟨bb, oo, e, _, hc⟩ := (HDR.out.below hW) (by omega)
    rw [ha] at e
    injection e with e
    subst e
    rw [Addr.add_lit]
    exact hc j hj
  have HNN : Hid (D = none → L = 0) := Lib.hid fun h => by
    rcases Nat.eq_zero_or_pos L with h0 | h0
    · exact h0
    · obtain ⟨bb, oo, e, _⟩ := HDR.out h0
      rw [h] at e
      cases e
  have h1one : ∀ u ∈ rowOf d L, u.oneCell' = true := by
    intro u hu
    obtain ⟨j, _, rfl⟩ := List.mem_map.1 hu
    rfl
  have hrl : (rowOf d L).length = L * 1 := by simp [rowOf]
  have HOO := Lib.hid h1one
  clear h1one
  go_upto_region 4 with fail
  go_wp2_with (at_builtin; refine wpList_append_any rfl _ _ 36 rfl w1.heap.size 3 i0 (.int .i64 0) 1 8 Tryz.underlying36 hif hz0 hz1 hz2 rfl (by decide) (.slice (some ⟨w1.heap.size, 0, none⟩) 1 1) 1 [.int .i64 0] rfl (own_first (Blk.new _ _ _) (Nat.le_refl _)) D L _ (rowOf d L) rfl hrl HNN.out (HNW.out _ (below_alloc _ _)) HOO.out (by unfold maxLen; omega) (by omega) (by simp) ?_; intro va wa hown1 hgrow1 _; rw [rowOf_cons] at hown1; obtain ⟨Aa, cva, hva⟩ := own_form hown1; subst hva; have HBA : Hid (Below w1.heap.size w1 wa) := Lib.hid ((below_alloc w1 (.cells #[.int .i64 0] 3)).grown hgrow1 (by simp) (fun q e => Nat.le_of_eq (Option.some.inj e))); have HRA := Lib.hid (rd_rowOf hown1); clear hown1 hgrow1)
  refine (sorted_19 Aa (1 + L) cva wa.heap.size (consF d) wa (by omega) (by omega) HRA.out).mono ?_
  rintro e w2 ⟨R, rc, ys, rfl, hrd, hmem, hyl, hb⟩
  have hB12 : Below w1.heap.size w1 w2 := HBA.out.trans (hb.mono HBA.out.size)
  have HB2 := Lib.hid (HB1.out.trans (hB12.mono HB1.out.size))
  have HK2 := Lib.hid (HK1.out.below hB12 HK1.out.lt)
  have HKS : Hid (∀ W m, Below w2.heap.size w2 W → Calls Tryz.prog 20 #[.slice D L dc, .agg #[.int .i64 fa, .int .i64 (o : Int)], .int .i64 m] W fun e w' => e = .returned (.bool (kpE (fun j => decide (m < d j)) o fa L)) ∧ Below W.heap.size W w') := Lib.hid fun W m h => by
    have h2 : Below w1.heap.size w1 W := hB12.trans (h.mono hB12.size)
    exact keeps_20 D L dc w1.heap.size o d fa m W hlen ho1 h2.size (HDR.out.below h2)
  have HM1 : Hid (∀ j, j < ys.length → ∃ i, i < 1 + L ∧ lsF ys j = consF d i) := Lib.hid fun j hj => by
    have h1 : lsF ys j ∈ ys := by simp [lsF, List.getD, hj]
    exact (hmem _).1 h1
  have HM2 : Hid (∀ i, i < 1 + L → ∃ j, j < ys.length ∧ lsF ys j = consF d i) := Lib.hid fun i hi => by
    have h1 : consF d i ∈ ys := (hmem _).2 ⟨i, hi, rfl⟩
    obtain ⟨j, hj, e⟩ := List.mem_iff_getElem.1 h1
    exact ⟨j, hj, by simp [lsF, List.getD, hj, e]⟩
  have HRD := Lib.hid hrd
  clear hrd hmem hb hB12 HBA HRA HNW HNN HOO HB1 HK1 HDR hrl hif hz0 hz1 hz2
  generalize ys.length = N at *
  generalize lsF ys = f at *
  have hz2' := HB2.out.size
  have hk2lt := HK2.out.lt
  go_wp2_with fail
  go_loopw [26] (fun i wr => ∃ k : Nat, k ≤ N ∧ i = .int .i64 k ∧ Hid (∀ j, j < k → kpE (fun i => decide (f j < d i)) o fa L = false) ∧ Below w2.heap.size w2 wr) (fun i _ => N - (intOf i).toNat)
  case atStart => exact ⟨0, Nat.zero_le _, rfl, Lib.hid (fun j hj => absurd hj (by omega)), Below.refl _ _⟩
  case round =>
    obtain ⟨k, hk, rfl, HF, hb⟩ := hrel
    have HB3 := Lib.hid (HB2.out.trans (hb.mono hz2'))
    have HK3 := Lib.hid (HK2.out.below hb hk2lt)
    have HL3 := Lib.hid hb
    have HR3 := Lib.hid (HRD.out.below hb)
    clear hb
    by_cases hlt : ¬ k < N
    · exfalso
      obtain ⟨i, hi, hmax⟩ := ex_max (consF d) (1 + L) (by omega)
      obtain ⟨j, hj, e⟩ := HM2.out i hi
      have h1 := HF.out j (by omega)
      rw [kpE_none o hfa L (fun q hq => by
        have h2 := hmax (1 + q) (by omega)
        unfold consF at h2 e
        rw [if_neg (by omega), show 1 + q - 1 = q by omega] at h2
        rw [decide_eq_false_iff_not, e]
        omega)] at h1
      cases h1
    have hlt : k < N := by omega
    have hlt' : (k : Int) < (N : Int) := by omega
    have hfk : 0 ≤ f k ∧ f k ≤ 1099511627776 := by
      obtain ⟨i, hi, e⟩ := HM1.out k hlt
      rw [e]
      unfold consF
      split
      · omega
      · exact HRG.out _ (by omega)
    obtain ⟨rb, ro, rfl, _, hc⟩ := HR3.out (by omega)
    have c0 : wr.cell? ⟨rb, ro + k, none⟩ = some (.int .i64 (f k)) := hc k hlt
    clear hc
    have HIN : Hid (InDist n p b (f k)) := Lib.hid (by obtain ⟨i, hi, e⟩ := HM1.out k hlt; rw [e]; exact HMB.out i hi)
    have HKK := Lib.hid (HKS.out wr (f k) HL3.out)
    have HVK := Lib.hid (HV.out (f k))
    have HFK : Hid (kpE (fun i => decide (f k < d i)) o fa L = false → ∀ j, j < k + 1 → kpE (fun i => decide (f j < d i)) o fa L = false) := Lib.hid fun h j hj => by
      by_cases e : j = k
      · subst e; exact h
      · exact HF.out j (by omega)
    have b0 : wr.cell? ⟨w.heap.size, 0, none⟩ = some (.int .i64 fa) := HK3.out.cell 0
    have b1 : wr.cell? ⟨w.heap.size, 1, none⟩ = some (.int .i64 (o : Int)) := HK3.out.cell 1
    generalize kpE (fun j => decide (f k < d j)) o fa L = v at HKK HVK HFK
    generalize f k = m at *
    go_wp2_with fail
    refine HKK.out.mono ?_
    rintro e w4 ⟨rfl, hb⟩
    have HL4 := Lib.hid (HL3.out.trans (hb.mono HL3.out.size))
    have HB4 := Lib.hid (HB3.out.trans (hb.mono HB3.out.size))
    clear hb b0 b1 c0
    cases v
    · have HFF := Lib.hid (HFK.out rfl)
      go_wp2_with fail
      go_roundw
      case rel => exact ⟨k + 1, by omega, by go_num, HFF, HL4.out⟩
      case measure => simp [intOf]; omega
    · go_wp2_with fail
      refine bodyPost_ret (results_tmp2 rfl _ _ _) rfl ?_
      exact ⟨⟨m, 0, rfl, ⟨fun _ => HG.out, fun _ => rfl⟩, fun _ => ⟨⟨hfk, HVK.out⟩, HIN.out⟩⟩, HB4.out⟩
end Go.Proofs.YtonkjnkokikpgaaGreat
