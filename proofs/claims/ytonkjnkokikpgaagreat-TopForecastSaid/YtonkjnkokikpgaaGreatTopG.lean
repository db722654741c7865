/- The top: contract of TopForecast. -/
import Derived.Test.YtonkjnkokikpgaaGreatTopI
namespace Go.Proofs.YtonkjnkokikpgaaGreat
open Go.RowKit

set_option maxRecDepth 100000 in
set_option maxHeartbeats 16000000 in
theorem TopForecast_3 (A C PA IA DA KA : Option Addr) (n c m d P pc iN ic dN dc0 kN kc0 B lw hg : Nat) (fa of_ cp st fl : Int) (x : EnssF) (p : PastF) (lo hi dm ou sp : Nat → Int) (inf df kf : Nat → Nat) (w : World)
    (hB : B ≤ w.heap.size) (hn : n ≤ 9223372036854775807) (hm : m ≤ 9223372036854775807) (hP : P ≤ 9223372036854775807) (hlw : lw ≤ 255) (hhg : hg ≤ 255)
    (hr : EnssRd w B A n x) (hp : PastRd w B C m p) (hc : Rd w B PA (P * 5) (psc lo hi dm ou sp)) (hi_ : Rd w B IA iN (fun j => .int .u32 (inf j))) (hdr : Rd w B DA dN (fun j => .int .u16 (df j))) (hkr : Rd w B KA kN (fun j => .int .u16 (kf j)))
    (hif_ : ∀ j, j < iN → inf j ≤ 4294967295) (hdf : ∀ j, j < dN → df j ≤ 65535) (hkf : ∀ j, j < kN → kf j ≤ 65535) :
    Calls Tryz.prog 3 #[.slice A n c, .int .u8 lw, .int .u8 hg, .slice C m d, .agg #[.int .i64 fa, .int .i64 of_], .agg #[.int .i64 cp, .int .i64 st, .int .i64 fl, .slice PA P pc], .slice IA iN ic, .slice DA dN dc0, .slice KA kN kc0] w fun e w' => e = .returned (.bool true) ∧ Below w.heap.size w w' := by
  have HE := Lib.hid hr
  have HP := Lib.hid hp
  have HC := Lib.hid hc
  have HI := Lib.hid hi_
  have HDR := Lib.hid hdr
  have HKR := Lib.hid hkr
  have HIF := Lib.hid hif_
  have HDF := Lib.hid hdf
  have HKF := Lib.hid hkf
  clear hr hp hc hi_ hdr hkr hif_ hdf hkf
  go_enter Tryz.func3, Tryz.ntmps3
  go_upto_region 1 with fail
  obtain ⟨w0, hw0⟩ : ∃ zz, zz = (w.alloc (.cells #[.int .i64 fa, .int .i64 of_] 25)).alloc (.cells #[.int .i64 cp, .int .i64 st, .int .i64 fl, .slice PA P pc] 30) := ⟨_, rfl⟩
  have HJ0 : Hid (Blk w0 w.heap.size 25 #[.int .i64 fa, .int .i64 of_]) := Lib.hid (hw0 ▸ (Blk.new _ _ _).alloc _)
  have HK0 : Hid (Blk w0 (w.heap.size + 1) 30 #[.int .i64 cp, .int .i64 st, .int .i64 fl, .slice PA P pc]) := Lib.hid (hw0 ▸ Blk.new' (by simp))
  have HL0 : Hid (Below w.heap.size w w0) := Lib.hid (hw0 ▸ (below_alloc _ _).alloc (by simp) _)
  rw [← hw0]
  clear hw0
  obtain ⟨cb, hcb⟩ : ∃ cb, cb = w.heap.size + 1 := ⟨_, rfl⟩
  rw [← hcb] at HK0
  rw [← hcb]
  have hcbl : w.heap.size < cb := by omega
  clear hcb
  go_wp2_with fail
  refine (awake_4 w0).mono ?_
  rintro e w1 ⟨rfl, hb⟩
  have HL1 := Lib.hid (HL0.out.trans (hb.mono HL0.out.size))
  have HJ1 := Lib.hid (HJ0.out.below hb HJ0.out.lt)
  have HK1 := Lib.hid (HK0.out.below hb HK0.out.lt)
  have hz1 := HL1.out.size
  clear hb HL0 HJ0 HK0
  go_wp2_with fail
  refine (few_5 A C n c m d B x p w1 hn hm (by omega) (HE.out.below (HL1.out.mono hB)) (HP.out.below (HL1.out.mono hB))).mono ?_
  rintro e w2 ⟨⟨b, rfl, hn4⟩, hb⟩
  have HL2 := Lib.hid (HL1.out.trans (hb.mono HL1.out.size))
  have HJ2 := Lib.hid (HJ1.out.below hb HJ1.out.lt)
  have HK2 := Lib.hid (HK1.out.below hb HK1.out.lt)
  have HN4 := Lib.hid hn4
  have hz2 := HL2.out.size
  clear hb HL1 HJ1 HK1 hz1 hn4
  clear w0 w1
  have c3 : w2.cell? ⟨cb, 3, none⟩ = some (.slice PA P pc) := HK2.out.cell 3
  have c3' : w2.cell? ⟨cb, 2 + 1, none⟩ = some (.slice PA P pc) := HK2.out.cell 3
  cases b
  · go_wp2_with fail
    go_ret
    exact ⟨rfl, HL2.out⟩
  have hn4 : n ≤ 4 := HN4.out rfl
  clear HN4
  by_cases h1 : 8 < (P : Int)
  · have h1d : decide (8 < (P : Int)) = true := by simpa using h1
    clear h1
    go_wp2_with fail
    go_ret
    exact ⟨rfl, HL2.out⟩
  have h1d : decide (8 < (P : Int)) = false := by simpa using h1
  have hP8 : P ≤ 8 := by omega
  clear h1
  by_cases h1 : 40 < (dN : Int)
  · have h2d : decide (40 < (dN : Int)) = true := by simpa using h1
    clear h1
    go_wp2_with fail
    go_ret
    exact ⟨rfl, HL2.out⟩
  have h2d : decide (40 < (dN : Int)) = false := by simpa using h1
  have hdN : dN ≤ 40 := by omega
  clear h1
  by_cases h1 : 40 < (kN : Int)
  · have h3d : decide (40 < (kN : Int)) = true := by simpa using h1
    clear h1
    go_wp2_with fail
    go_ret
    exact ⟨rfl, HL2.out⟩
  have h3d : decide (40 < (kN : Int)) = false := by simpa using h1
  have hkN : kN ≤ 40 := by omega
  clear h1
  have hmk : ∀ w, (Instr.makeSlice 36 (.int .i64 (P : Int)) (.int .i64 (P : Int))).run Tryz.prog w = .ok (.slice (some ⟨w.heap.size, 0, none⟩) P P) (w.alloc (.cells (madeCells #[.int .i64 0] P) 3)) := fun w => make_ints P (by omega) w
  go_upto_region 8 with fail
  obtain ⟨w3, hw3⟩ : ∃ zz, zz = w2.alloc (.cells (madeCells #[.int .i64 0] P) 3) := ⟨_, rfl⟩
  have HS3 : Hid (RowN w3 w2.heap.size P (fun _ => 0)) := Lib.hid (hw3 ▸ made_row w2 P)
  have HL3 : Hid (Below w.heap.size w w3) := Lib.hid (hw3 ▸ HL2.out.alloc hz2 _)
  have HJ3 : Hid (Blk w3 w.heap.size 25 #[.int .i64 fa, .int .i64 of_]) := Lib.hid (hw3 ▸ HJ2.out.alloc _)
  have HK3 : Hid (Blk w3 cb 30 #[.int .i64 cp, .int .i64 st, .int .i64 fl, .slice PA P pc]) := Lib.hid (hw3 ▸ HK2.out.alloc _)
  have hcs : cb < w2.heap.size := HK2.out.lt
  rw [← hw3]
  clear hw3 hmk c3 c3' HL2 HJ2 HK2 h1d h2d h3d
  generalize w2.heap.size = sb at *
  clear w2
  obtain ⟨sv, hsv⟩ : ∃ sv : Nat → Nat, sv = fun t => if t < iN then inf t else 0 := ⟨_, rfl⟩
  have HSV : Hid (∀ t, sv t ≤ 4294967295) := Lib.hid fun t => by
    rw [hsv]
    show (if t < iN then inf t else 0) ≤ 4294967295
    split
    · exact HIF.out t (by assumption)
    · omega
  have HSI : Hid (∀ t, t < iN → sv t = inf t) := Lib.hid fun t ht => by rw [hsv]; simp [ht]
  have HSO : Hid (∀ t, ¬ t < iN → sv t = 0) := Lib.hid fun t ht => by rw [hsv]; simp [ht]
  clear hsv
  have hsb3 := HS3.out.lt
  go_wp2_with fail
  go_loopw [70] (fun i wr => ∃ k : Nat, k ≤ P ∧ i = .int .i64 k ∧ Hid (RowN wr sb P (svP sv k)) ∧ Hid (Blk wr w.heap.size 25 #[.int .i64 fa, .int .i64 of_]) ∧ Hid (Blk wr cb 30 #[.int .i64 cp, .int .i64 st, .int .i64 fl, .slice PA P pc]) ∧ Hid (Below w.heap.size w wr)) (fun i _ => P - (intOf i).toNat)
  case atStart => exact ⟨0, Nat.zero_le _, rfl, by rw [svP_zero]; exact HS3, HJ3, HK3, HL3⟩
  case round =>
    clear HS3 HJ3 HK3 HL3 hsb3
    obtain ⟨k, hk, rfl, HS, HJ, HK, HL⟩ := hrel
    by_cases hlt : ¬ k < P
    · have hlt' : ¬ (k : Int) < (P : Int) := by omega
      have hkP : k = P := by omega
      subst k
      obtain ⟨W1, hW1⟩ : ∃ zz, zz = wr := ⟨_, rfl⟩
      rw [← hW1]
      rw [← hW1] at HS HJ HK HL
      clear hW1 hk hlt hlt' HSI HSO HIF HI
      clear wr
      obtain ⟨s, hs⟩ : ∃ s, s = svP sv P := ⟨_, rfl⟩
      have HSB : Hid (∀ t, s t ≤ 4294967295) := Lib.hid fun t => by
        rw [hs]
        unfold svP
        split
        · exact HSV.out t
        · omega
      rw [← hs] at HS
      clear hs HSV

      have hzW := HL.out.size
      have hsW := HS.out.lt
      have hcW := HK.out.lt
      obtain ⟨i41, h41a, h41b, h41c, h41d⟩ := info_parts info41
      obtain ⟨i49, h49a, h49b, h49c, h49d⟩ := info_parts info49
      go_wp2_with fail
      go_loopw [19, 20, 88] (fun s1 s2 i wr => ∃ (k : Nat) (rA : Nat → Option Addr) (rc : Nat → Nat) (rf : Nat → Nat → Int × Int), k ≤ n ∧ i = .int .i64 k ∧ Hid (wr.ownsRow W1.heap.size 41 1 s1 k (rowA P rA rc k)) ∧ Hid (wr.ownsRow W1.heap.size 49 3 s2 k (rowC (lastP x.bd rA rc rf sb P s) k)) ∧ Hid (BkRows wr W1.heap.size P rA rc rf k) ∧ Hid (LGood x.bd P rf k) ∧ Hid (Below W1.heap.size W1 wr)) (fun _ _ i _ => n - (intOf i).toNat)
      case atStart => exact ⟨0, fun _ => none, fun _ => 0, fun _ _ => (0, 0), Nat.zero_le _, rfl, Lib.hid (World.ownsRow_nil _ _ _ _), Lib.hid (World.ownsRow_nil _ _ _ _), Lib.hid (fun j hj => absurd hj (by omega)), Lib.hid ⟨fun j hj => absurd hj (by omega), fun j hj => absurd hj (by omega)⟩, Lib.hid (Below.refl _ _)⟩
      case round =>
        obtain ⟨k, rA, rc, rf, hk, rfl, HO1, HO2, HR, HG, HW⟩ := hrel
        obtain ⟨D1, c1, e1⟩ := own_form HO1.out
        obtain ⟨D2, c2, e2⟩ := own_form HO2.out
        subst e1 e2
        have HLr := Lib.hid (HL.out.trans (HW.out.mono hzW))
        have hzr := HLr.out.size
        have hzr1 := HW.out.size
        by_cases hlt : ¬ k < n
        · have hlt' : ¬ (k : Int) < (n : Int) := by omega
          have hkn : k = n := by omega
          subst k
          obtain ⟨W2, hW2⟩ : ∃ zz, zz = wr := ⟨_, rfl⟩
          rw [← hW2]
          rw [← hW2] at HO1 HO2 HR HW HLr hzr hzr1
          clear hW2 hk hlt hlt'
          clear wr
          have HSw := Lib.hid (HS.out.below HW.out hsW)
          have HKw := Lib.hid (HK.out.below HW.out hcW)
          have HPL := Lib.hid (lastP_rd HO2.out HR.out HSw.out hP8)
          have HPG : Hid (PGood n (lastP x.bd rA rc rf sb P s)) := Lib.hid (HG.out.past hn4 HSB.out)
          have HRI : Hid (Rises n (lastP x.bd rA rc rf sb P s).bd) := Lib.hid HG.out.rises
          have HF1 : Hid (∀ a : Addr, D2 = some a → a.block ≠ cb) := Lib.hid fun a ha => by
            have := own_addr HO2.out a ha
            omega
          have HF2 : Hid (∀ j, j < n → ∀ a : Addr, rA j = some a → a.block ≠ cb) := Lib.hid fun j hj a ha => by
            have := own_addr (HR.out j hj) a ha
            omega
          have hcap := own_cap HO1.out
          go_wp2_with fail
          refine (Meet_9 D1 n c1 P W2.heap.size rA rc rf W2 (by omega) hcap (Nat.le_refl _) (rgs_rd HO1.out HR.out) (fun j hj => (HG.out.1 j hj).2)).mono ?_
          rintro e w3 ⟨hmet, hb⟩
          have HP3 := Lib.hid (HPL.out.below hb)
          have HK3 := Lib.hid (HKw.out.below hb HKw.out.lt)
          have HL3 := Lib.hid (HLr.out.trans (hb.mono hzr))
          have hz23 := hb.size
          have hz3 := HL3.out.size
          have hsw := HSw.out.lt
          clear hb HO1 HO2 HR HW HLr HSw HKw HPL HS HJ HK HL hcap
          have c3 : w3.cell? ⟨cb, 3, none⟩ = some (.slice PA P pc) := HK3.out.cell 3
          have c3' : w3.cell? ⟨cb, 2 + 1, none⟩ = some (.slice PA P pc) := HK3.out.cell 3
          rcases hmet with ⟨_, rfl⟩ | ⟨_, rfl⟩ | ⟨mb, mc, f, hn0, rfl, hmg, hmt, hmo, hmr⟩
          · go_wp2_with fail
            go_ret
            exact ⟨rfl, HL3.out⟩
          · go_wp2_with fail
            go_ret
            exact ⟨rfl, HL3.out⟩
          have HMT := Lib.hid hmt
          have HMO := Lib.hid hmo
          have HMR := Lib.hid hmr
          have hP1 : 1 ≤ P := (rgB_iff.1 (HG.out.1 0 hn0).2).1.1
          clear hmt hmo hmr
          have hcb3 := HK3.out.lt
          have hmc0 : mb ≠ cb := by omega
          obtain ⟨i55, hj, hj0, hj1, hj2⟩ := info_parts info55
          have HNEW := Lib.hid (rowX_new ((HC.out.below (HL3.out.mono hB)).alloc (w := w3) (by omega) (.cells #[] 55)))
          have HNON := Lib.hid (rowX_none HC.out)
          have hnl := rowX_len (lo := lo) (hi := hi) (dm := dm) (ou := ou) (sp := sp) (n := P)
          have HONE := Lib.hid (rowX_one (lo := lo) (hi := hi) (dm := dm) (ou := ou) (sp := sp) (n := P))
          have HRX : Hid (∀ W A c, W.ownsRow w3.heap.size 55 5 (.slice A P c) P (rowX lo hi dm ou sp P) → RowP W w3.heap.size A P lo hi dm ou sp) := Lib.hid fun W A c h => RowP.of_own h
          generalize rowX lo hi dm ou sp P = news at HNEW hnl HONE HRX
          go_upto_region 29 with (at_builtin; refine wpList_append_any rfl _ _ 28 rfl w3.heap.size 55 i55 (.agg #[.int .i64 0, .int .i64 0, .int .i64 0, .int .i64 0, .int .i64 0]) 5 40 Tryz.underlying28 hj hj0 hj1 hj2 rfl (by decide) (.slice (some ⟨w3.heap.size, 0, none⟩) 0 0) 0 [] rfl (own_empty (Blk.new _ _ _) (Nat.le_refl _)) PA P pc news rfl hnl HNON.out HNEW.out HONE.out (by unfold maxLen; omega) (by omega) (by simp) ?_; intro va wa hown1 hgrow1 _; rw [Nat.zero_add, List.nil_append] at hown1; obtain ⟨Aa, cva, hva⟩ := own_form hown1; subst hva; have HDA := Lib.hid (blk_of_grown (HK3.out.alloc _) hgrow1 (fun e => (show cb ≠ w3.heap.size by omega) (Option.some.inj e).symm)); have HBA : Hid (Below w3.heap.size w3 wa) := Lib.hid ((below_alloc w3 (.cells #[] 55)).grown hgrow1 (by simp) (fun q e => Nat.le_of_eq (Option.some.inj e))); have ca3 : wa.cell? ⟨cb, 2 + 1, none⟩ = some (.slice PA P pc) := HDA.out.cell 3; have ca3' : wa.cell? ⟨cb, 3, none⟩ = some (.slice PA P pc) := HDA.out.cell 3; have fa3 := HDA.out.frozen 3; have HRA := Lib.hid (HRX.out _ _ _ hown1); clear hown1 hgrow1)
          obtain ⟨w4, hw4⟩ : ∃ zz, zz = wa.setCell ⟨cb, 2 + 1, none⟩ (.slice Aa P cva) := ⟨_, rfl⟩
          have HK4 : Hid (Blk w4 cb 30 #[.int .i64 cp, .int .i64 st, .int .i64 fl, .slice Aa P cva]) := Lib.hid (hw4 ▸ HDA.out.set_ 3 _)
          have HL4 : Hid (Below w.heap.size w w4) := Lib.hid (hw4 ▸ (HL3.out.trans (HBA.out.mono hz3)).setCell (p := ⟨cb, 2 + 1, none⟩) (show w.heap.size ≤ cb by omega) _)
          have HR4 : Hid (RowP w4 w3.heap.size Aa P lo hi dm ou sp) := Lib.hid (hw4 ▸ HRA.out.far (p := ⟨cb, 2 + 1, none⟩) hcb3 _)
          have HP4 : Hid (PastRd w4 W2.heap.size D2 n (lastP x.bd rA rc rf sb P s)) := Lib.hid (hw4 ▸ lastP_far (HP3.out.below (HBA.out.mono hz23)) HF1.out HF2.out (show sb ≠ cb by omega) _)
          have HM4 : Hid (Rd w4 w3.heap.size (some ⟨mb, 0, none⟩) (P * 2) (rsc f)) := Lib.hid (hw4 ▸ Rd.far (HMR.out.below HBA.out) (p := ⟨cb, 2 + 1, none⟩) (fun a ha => by cases ha; exact hmc0) _)
          have hz34 : w3.heap.size ≤ w4.heap.size := by have := HBA.out.size; rw [hw4]; simpa [World.setCell] using this
          rw [← hw4]
          clear hw4 ca3 ca3' fa3 HDA HBA HRA HK3 HL3 HP3 HMR HNEW HNON HONE HRX hnl c3 c3' HF1 HF2 HC HE
          clear wa
          rcases HR4.out with h0 | ⟨g, cur0, e, hbase, hg0, _, _⟩
          · omega
          subst e
          have hgl := hg0.lt
          clear hg0
          have d3 : w4.cell? ⟨cb, 2 + 1, none⟩ = some (.slice (some ⟨g, 0, none⟩) P cva) := HK4.out.cell 3
          have d3' : w4.cell? ⟨cb, 3, none⟩ = some (.slice (some ⟨g, 0, none⟩) P cva) := HK4.out.cell 3
          go_wp2_with fail
          clear d3 d3'
          go_loopw [195] (fun i wr => ∃ k : Nat, k ≤ P ∧ i = .int .i64 k ∧ Hid (RowP wr w3.heap.size (some ⟨g, 0, none⟩) P (mlo f lo k) (mhi f hi k) dm ou sp) ∧ Hid (Below w3.heap.size w4 wr)) (fun i _ => P - (intOf i).toNat)
          case atStart => exact ⟨0, Nat.zero_le _, rfl, by rw [mlo_zero, mhi_zero]; exact HR4, Lib.hid (Below.refl _ _)⟩
          case round =>
            obtain ⟨k, hk, rfl, HRr, HB⟩ := hrel
            have HKr := Lib.hid (HK4.out.below HB.out hcb3)
            have HMr := Lib.hid (HM4.out.below HB.out)
            by_cases hlt : ¬ k < P
            · have hlt' : ¬ (k : Int) < (P : Int) := by omega
              have hkP : k = P := by omega
              subst k
              obtain ⟨W4, hW4⟩ : ∃ zz, zz = wr := ⟨_, rfl⟩
              rw [← hW4]
              rw [← hW4] at HRr HB HKr HMr
              clear hW4 hk hlt hlt'
              clear wr
              have hzB := HB.out.size
              have HL5 := Lib.hid (HL4.out.trans (HB.out.mono hz3))
              have HP5 := Lib.hid (HP4.out.below (HB.out.mono hz23))
              have HRD := Lib.hid HRr.out.rd
              clear HB HRr HP4 HL4 HM4 HR4 HK4
              obtain ⟨lo', hlo⟩ : ∃ l, l = mlo f lo P := ⟨_, rfl⟩
              obtain ⟨hi', hhi⟩ : ∃ l, l = mhi f hi P := ⟨_, rfl⟩
              have HLO : Hid (∀ t, t < P → lo' t = (f t).1) := Lib.hid fun t ht => by rw [hlo]; exact mlo_at ht
              have HHI : Hid (∀ t, t < P → hi' t = (f t).2) := Lib.hid fun t ht => by rw [hhi]; exact mhi_at ht
              rw [← hlo, ← hhi] at HRD
              clear hlo hhi
              have hz5 := HL5.out.size
              have hcb5 := HKr.out.lt
              have c0 : W4.cell? ⟨cb, 0, none⟩ = some (.int .i64 cp) := HKr.out.cell 0
              have c1 : W4.cell? ⟨cb, 1, none⟩ = some (.int .i64 st) := HKr.out.cell 1
              have c2 : W4.cell? ⟨cb, 2, none⟩ = some (.int .i64 fl) := HKr.out.cell 2
              have c3 : W4.cell? ⟨cb, 3, none⟩ = some (.slice (some ⟨g, 0, none⟩) P cva) := HKr.out.cell 3
              go_wp2_with fail
              refine (Robust_12 (PA := some ⟨g, 0, none⟩) (n := P) (pc := cva) (cp := cp) (st := st) (fl := fl) W4.heap.size W4 (by omega) (Nat.le_refl _) HRD.out).mono ?_
              rintro e w5 ⟨⟨A2, k2, cc2, rfl, hz, hnz⟩, hb⟩
              have HCH : Hid (chkE cp st fl P lo' hi' dm ou sp = chkE cp st fl P lo' hi' dm ou sp) := Lib.hid rfl
              obtain ⟨E, hE⟩ : ∃ E, E = chkE cp st fl P lo' hi' dm ou sp := ⟨_, rfl⟩
              rw [← hE] at hz hnz
              rw [← hE]
              have HCE := Lib.hid hE
              have HZ := Lib.hid hz
              have HNZ := Lib.hid hnz
              have HK6 := Lib.hid (HKr.out.below hb hcb5)
              have HL6 := Lib.hid (HL5.out.trans (hb.mono hz5))
              have HP6 := Lib.hid (HP5.out.below (hb.mono (by omega)))
              have HM6 := Lib.hid (HMr.out.below (hb.mono (by omega)))
              have HRD6 : Hid (Rd w5 W4.heap.size (some ⟨g, 0, none⟩) (P * 5) (psc lo' hi' dm ou sp)) := Lib.hid (HRD.out.below hb)
              have hz6 := hb.size
              clear hb hE hz hnz c0 c1 c2 c3 HCH HKr HL5 HP5 HMr HRD
              have c1 : w5.cell? ⟨cb, 1, none⟩ = some (.int .i64 st) := HK6.out.cell 1
              have c1' : w5.cell? ⟨cb, 0 + 1, none⟩ = some (.int .i64 st) := HK6.out.cell 1
              have c3 : w5.cell? ⟨cb, 3, none⟩ = some (.slice (some ⟨g, 0, none⟩) P cva) := HK6.out.cell 3
              have c3' : w5.cell? ⟨cb, 2 + 1, none⟩ = some (.slice (some ⟨g, 0, none⟩) P cva) := HK6.out.cell 3
              by_cases hE0 : ¬ E = 0
              · obtain ⟨rfl, rfl, rfl⟩ := HNZ.out hE0
                have hEd : (E != 0) = true := by simpa using hE0
                clear hE0
                go_upto_region 35 with fail
                go_quiet (fail)
                go_wp2_with fail
                go_ret
                exact ⟨rfl, below_quiet HL6.out ⟨_, rfl⟩⟩
              have hE1 : E = 0 := by omega
              subst hE1
              obtain ⟨hk2, hcc, hrow⟩ := HZ.out rfl
              subst hk2 hcc
              have HCH : Hid (chkE cp st fl P lo' hi' dm ou sp = 0) := Lib.hid HCE.out.symm
              have HGO := Lib.hid (good_of HCH.out)
              obtain ⟨F, hF⟩ : ∃ F, F = rb cp fl P lo' hi' dm ou sp := ⟨_, rfl⟩
              have HF := Lib.hid hF
              rw [← hF] at hrow
              obtain ⟨rb_, ro, rfl, hrbl, r0, r1⟩ := rng_at hrow (show 0 < P + 1 by omega)
              have q0 : w5.cell? ⟨rb_, ro, none⟩ = some (.int .i64 (F 0).1) := by simpa using r0
              have q1 : w5.cell? ⟨rb_, ro + 1, none⟩ = some (.int .i64 (F 0).2) := by simpa using r1
              have hwP : IntKind.i64.wrap ((P : Int) + 1) = (P : Int) + 1 := IntWalk.i64_in _ ⟨by omega, by omega⟩
              clear hF hrow r0 r1 HZ HNZ HCE hE0 hrbl
              by_cases h1 : st < (F 0).1
              · have h1d : decide (st < (F 0).1) = true := by simpa using h1
                clear h1
                generalize (F 0).1 = f0 at *
                generalize (F 0).2 = f1 at *
                go_upto_region 35 with fail
                go_quiet (fail)
                go_wp2_with fail
                go_ret
                exact ⟨rfl, below_quiet HL6.out ⟨_, rfl⟩⟩
              have h1d : decide (st < (F 0).1) = false := by simpa using h1
              by_cases h2 : (F 0).2 < st
              · have h2d : decide ((F 0).2 < st) = true := by simpa using h2
                clear h1 h2
                generalize (F 0).1 = f0 at *
                generalize (F 0).2 = f1 at *
                go_upto_region 35 with fail
                go_quiet (fail)
                go_wp2_with fail
                go_ret
                exact ⟨rfl, below_quiet HL6.out ⟨_, rfl⟩⟩
              have h2d : decide ((F 0).2 < st) = false := by simpa using h2
              have HF0 : Hid (ri3 (F 0).1 st (F 0).2 = true) := Lib.hid (ri3_iff.2 ⟨by omega, by omega⟩)
              have hst : 0 ≤ st ∧ st ≤ cp := by have := (chk_zero HCH.out).2.1; omega
              clear h1 h2
              go_upto_region 35 with fail
              go_quiet (fail)
              have HK7 := Lib.hid (HK6.out.drewN nq)
              have HL7 : Hid (Below w.heap.size w (w5.drewN nq)) := Lib.hid (below_quiet HL6.out ⟨nq, rfl⟩)
              have HP7 : Hid (PastRd (w5.drewN nq) W2.heap.size D2 n (lastP x.bd rA rc rf sb P s)) := Lib.hid (HP6.out.below (below_quiet (Below.refl _ _) ⟨nq, rfl⟩))
              have HM7 := Lib.hid (HM6.out.drewN nq)
              have HRD7 := Lib.hid (HRD6.out.drewN nq)
              have hz7 : W4.heap.size ≤ (w5.drewN nq).heap.size := hz6
              generalize w5.drewN nq = w6 at HK7 HL7 HP7 HM7 HRD7 hz7 ⊢
              clear HK6 HL6 HP6 HM6 HRD6 hz6 c1 c1' c3 c3' q0 q1 h1d h2d hwP
              clear w5
              have c3 : w6.cell? ⟨cb, 3, none⟩ = some (.slice (some ⟨g, 0, none⟩) P cva) := HK7.out.cell 3
              have c3' : w6.cell? ⟨cb, 2 + 1, none⟩ = some (.slice (some ⟨g, 0, none⟩) P cva) := HK7.out.cell 3
              go_wp2_with fail
              refine (paid_11 D2 DA KA n c2 P dN dc0 kN kc0 W2.heap.size df kf (lastP x.bd rA rc rf sb P s) w6 (by omega) HP7.out HPG.out HRI.out (fun _ _ => rfl) hn4 hP8 hdN hkN ((HDR.out.below (HL7.out.mono hB)).mono (by omega)) ((HKR.out.below (HL7.out.mono hB)).mono (by omega)) HDF.out HKF.out).mono ?_
              rintro e w7 ⟨rfl, hb⟩
              have HK8 := Lib.hid (HK7.out.below hb HK7.out.lt)
              have HL8 := Lib.hid (HL7.out.trans (hb.mono HL7.out.size))
              have HP8 := Lib.hid (HP7.out.below (hb.mono (by omega)))
              have HM8 := Lib.hid (HM7.out.below (hb.mono (by omega)))
              have HRD8 := Lib.hid (HRD7.out.below (hb.mono hz7))
              have hz8 : W4.heap.size ≤ w7.heap.size := Nat.le_trans hz7 hb.size
              clear hb c3 c3' HK7 HL7 HP7 HM7 HRD7 hz7
              clear w6
              have c1 : w7.cell? ⟨cb, 1, none⟩ = some (.int .i64 st) := HK8.out.cell 1
              have c1' : w7.cell? ⟨cb, 0 + 1, none⟩ = some (.int .i64 st) := HK8.out.cell 1
              have c3 : w7.cell? ⟨cb, 3, none⟩ = some (.slice (some ⟨g, 0, none⟩) P cva) := HK8.out.cell 3
              have c3' : w7.cell? ⟨cb, 2 + 1, none⟩ = some (.slice (some ⟨g, 0, none⟩) P cva) := HK8.out.cell 3
              go_wp2_with fail
              clear c1 c1' c3 c3'
              have HXO : Hid (∀ t, t < P → okP lo' hi' dm ou sp t = true) := Lib.hid fun t ht => (chk_zero HCH.out).2.2.2 t ht
              go_loopw [33, 269] (fun sx i wr => ∃ (k : Nat) (z : Int), k ≤ P ∧ i = .int .i64 k ∧ sx = .int .i64 z ∧ Hid (ri3 (F k).1 z (F k).2 = true) ∧ (0 ≤ z ∧ z ≤ cp) ∧ Hid (Below w7.heap.size w7 wr)) (fun _ i _ => P - (intOf i).toNat)
              case atStart => exact ⟨0, st, Nat.zero_le _, rfl, rfl, HF0, hst, Lib.hid (Below.refl _ _)⟩
              case round =>
                obtain ⟨k, z, hk, rfl, rfl, HRZ, hzc, HB⟩ := hrel
                have HL9 := Lib.hid (HL8.out.trans (HB.out.mono (by omega)))
                have HEW := HB
                have hcb8 := HK8.out.lt
                have HK9 := Lib.hid (HK8.out.below HB.out hcb8)
                by_cases hlt : ¬ k < P
                · have hlt' : ¬ (k : Int) < (P : Int) := by omega
                  have hkP : k = P := by omega
                  subst k
                  have hfl : fl ≤ z := by
                    have h9 := HRZ.out
                    rw [HF.out, rb_end, ri3_iff] at h9
                    exact h9.1
                  have hfd : decide (fl ≤ z) = true := by simpa using hfl
                  have c2 : wr.cell? ⟨cb, 2, none⟩ = some (.int .i64 fl) := HK9.out.cell 2
                  have c2' : wr.cell? ⟨cb, 1 + 1, none⟩ = some (.int .i64 fl) := HK9.out.cell 2
                  go_wp2_with fail
                  go_ret
                  exact ⟨rfl, HL9.out⟩
                have hlt : k < P := by omega
                have hlt' : (k : Int) < (P : Int) := by omega
                have HP9 := Lib.hid (HP8.out.below (HB.out.mono (by omega)))
                have HM9 := Lib.hid (HM8.out.below (HB.out.mono (by omega)))
                have HRD9 := Lib.hid (HRD8.out.below (HB.out.mono hz8))
                have hzr := HB.out.size
                obtain ⟨pb, po, e', hpb, x0, x1, x2, x3, x4⟩ := per_at HRD9.out hlt
                cases e'
                have x0' : wr.cell? ⟨g, k * 5, none⟩ = some (.int .i64 (lo' k)) := by simpa using x0
                have x1' : wr.cell? ⟨g, k * 5 + 1, none⟩ = some (.int .i64 (hi' k)) := by simpa using x1
                have x2' : wr.cell? ⟨g, k * 5 + 2, none⟩ = some (.int .i64 (dm k)) := by simpa using x2
                have x3' : wr.cell? ⟨g, k * 5 + 3, none⟩ = some (.int .i64 (ou k)) := by simpa using x3
                have x4' : wr.cell? ⟨g, k * 5 + 4, none⟩ = some (.int .i64 (sp k)) := by simpa using x4
                have hok := okP_iff.1 (HXO.out k hlt)
                have hlk := HLO.out k hlt
                have hhk := HHI.out k hlt
                have HBRK : Hid (((s k : Nat) : Int) < lo' k ∨ hi' k < ((s k : Nat) : Int) → ∃ j, j < n ∧ brB (lastP x.bd rA rc rf sb P s) k j = true) := Lib.hid fun h => broken_some HMT.out hlt (by rw [← hlk, ← hhk]; exact h)
                have HKEEP : Hid (lo' k ≤ ((s k : Nat) : Int) ∧ ((s k : Nat) : Int) ≤ hi' k → ∀ r, r = max (dm k) (z - kpH cp hi' sp k (F (k + 1))) → (dm k ≤ r ∧ r ≤ ou k ∧ r ≤ z) ∧ nxS cp z r (s k) ≤ sp k ∧ ri3 (F (k + 1)).1 (nxN cp z r (s k)) (F (k + 1)).2 = true ∧ 0 ≤ nxN cp z r (s k) ∧ nxN cp z r (s k) ≤ cp) := Lib.hid fun h r hr => by
                  have h9 := HRZ.out
                  rw [HF.out] at h9 hr ⊢
                  exact keep_ok HGO.out hlt h9 h hr
                have HREL : Hid (relE cp st fl P lo' hi' dm ou sp (k : Int) z = 0 ∧ relV cp st fl P lo' hi' dm ou sp (k : Int) z = max (dm k) (z - kpH cp hi' sp k (F (k + 1)))) := Lib.hid (by
                  have h9 := HRZ.out
                  rw [HF.out] at h9 ⊢
                  exact rel_ok HCH.out hlt hzc h9)
                have HNX : Hid (∀ r : Int, (0 ≤ r ∧ r ≤ 1099511627776) → (dm k ≤ r ∧ r ≤ ou k ∧ r ≤ z) → nxV cp st fl P lo' hi' dm ou sp (k : Int) z r (s k) = .tuple (nx4 (nxO cp sp k z r (s k)) (nxN cp z r (s k)) (nxS cp z r (s k)) 0)) := Lib.hid fun r h1 h2 => nx_ok HCH.out hlt hzc h1 (by have := HSB.out k; omega) h2
                have HNO : Hid (∀ r, nxO cp sp k z r (s k) = decide (nxS cp z r (s k) ≤ sp k)) := Lib.hid fun r => rfl
                have HCR : Hid (∀ W, Below wr.heap.size wr W → Calls Tryz.prog 13 #[.agg #[.int .i64 cp, .int .i64 st, .int .i64 fl, .slice (some ⟨g, 0, none⟩) P cva], .int .i64 k, .int .i64 z] W fun e w' => e = .returned (.tuple #[.int .i64 (relV cp st fl P lo' hi' dm ou sp (k : Int) z), .int .i64 (relE cp st fl P lo' hi' dm ou sp (k : Int) z)]) ∧ Below W.heap.size W w') := Lib.hid fun W h => Release_17 W4.heap.size (k : Int) z W (by omega) (by have := h.size; omega) (HRD9.out.below (h.mono (by omega)))
                have HCN : Hid (∀ r W, Below wr.heap.size wr W → Calls Tryz.prog 14 #[.agg #[.int .i64 cp, .int .i64 st, .int .i64 fl, .slice (some ⟨g, 0, none⟩) P cva], .int .i64 k, .int .i64 z, .int .i64 r, .int .i64 (s k)] W fun e w' => e = .returned (nxV cp st fl P lo' hi' dm ou sp (k : Int) z r (s k)) ∧ Below W.heap.size W w') := Lib.hid fun r W h => Next_19 W4.heap.size (k : Int) z r (s k) W (by omega) (by have := h.size; omega) (HRD9.out.below (h.mono (by omega)))
                obtain ⟨mb', mo', e', hmb', m0, m1⟩ := rng_at HM9.out hlt
                cases e'
                have m0' : wr.cell? ⟨mb, k * 2, none⟩ = some (.int .i64 (lo' k)) := by rw [hlk]; simpa using m0
                have m1' : wr.cell? ⟨mb, k * 2 + 1, none⟩ = some (.int .i64 (hi' k)) := by rw [hhk]; simpa using m1
                obtain ⟨sb', so', e', hsb', sc⟩ := (HP9.out.2 0 hn0).2.1 (show 0 < P by omega)
                have hsA : (lastP x.bd rA rc rf sb P s).sA 0 = some ⟨sb, 0, none⟩ := rfl
                rw [hsA] at e'
                cases e'
                have s0 : wr.cell? ⟨sb, k, none⟩ = some (.int .i64 (s k)) := by
                  have h9 := sc k hlt
                  rw [Nat.zero_add] at h9
                  exact h9
                clear x0 x1 x2 x3 x4 m0 m1 sc hsA hlk hhk
                have HPQ := Lib.hid (fun W (h : Below wr.heap.size wr W) => HP9.out.below (h.mono (show W2.heap.size ≤ wr.heap.size by omega)))
                have hgr : g < wr.heap.size := by omega
                have hmr : mb < wr.heap.size := by omega
                have hsr : sb < wr.heap.size := by omega
                have hcr : cb < wr.heap.size := by omega
                have HKQ := Lib.hid (fun W (h : Below wr.heap.size wr W) => HK9.out.below h hcr)
                clear HP9 HM9 HRD9 HB HXO
                obtain ⟨FN, hFN⟩ : ∃ y, y = F (k + 1) := ⟨_, rfl⟩
                rw [← hFN] at HKEEP HREL
                have HFN := Lib.hid hFN
                clear hFN
                clear HRZ
                generalize lo' k = z0 at *
                generalize hi' k = z1 at *
                generalize dm k = z2 at *
                generalize ou k = z3 at *
                generalize sp k = z4 at *
                go_upto_region 43 with fail
                obtain ⟨e1, he1⟩ : ∃ zz, zz = wr.alloc (.cells #[.int .i64 z0, .int .i64 z1, .int .i64 z2, .int .i64 z3, .int .i64 z4] 55) := ⟨_, rfl⟩
                have HX1 : Hid (Blk e1 wr.heap.size 55 #[.int .i64 z0, .int .i64 z1, .int .i64 z2, .int .i64 z3, .int .i64 z4]) := Lib.hid (he1 ▸ Blk.new _ _ _)
                have HE1 : Hid (Below wr.heap.size wr e1) := Lib.hid (he1 ▸ below_alloc _ _)
                have m0 : e1.cell? ⟨mb, k * 2, none⟩ = some (.int .i64 z0) := (HE1.out.cell (p := ⟨mb, k * 2, none⟩) hmr).trans m0'
                have m1 : e1.cell? ⟨mb, k * 2 + 1, none⟩ = some (.int .i64 z1) := (HE1.out.cell (p := ⟨mb, k * 2 + 1, none⟩) hmr).trans m1'
                have s1 : e1.cell? ⟨sb, k, none⟩ = some (.int .i64 (s k)) := (HE1.out.cell (p := ⟨sb, k, none⟩) hsr).trans s0
                rw [← he1]
                clear he1 x0' x1' x2' x3' x4' m0' m1'
                have HS0 := Lib.hid s0
                clear s0
                obtain ⟨sk, hsk⟩ : ∃ sk : Int, sk = ((s k : Nat) : Int) := ⟨_, rfl⟩
                have hskr : 0 ≤ sk ∧ sk ≤ 4294967295 := by have := HSB.out k; omega
                rw [← hsk] at HBRK HKEEP HNX HNO HCN HS0 s1
                clear hsk
                have HBT : Hid (∃ j, j < n ∧ brB (lastP x.bd rA rc rf sb P s) k j = true → True) := Lib.hid ⟨0, fun _ => trivial⟩
                by_cases g1 : sk < z0
                · have g1d : decide (sk < z0) = true := by simpa using g1
                  have HBS := Lib.hid (HBRK.out (.inl g1))
                  clear g1
                  go_quiet (fail)
                  have HE2 : Hid (Below wr.heap.size wr (e1.drewN nq)) := Lib.hid (below_quiet HE1.out ⟨nq, rfl⟩)
                  generalize e1.drewN nq = e2 at HE2 ⊢
                  go_wp2_with fail
                  refine (broken_12 D2 n c2 W2.heap.size k (lastP x.bd rA rc rf sb P s) e2 (by have := HE2.out.size; omega) (HPQ.out _ HE2.out) HPG.out HRI.out (fun _ _ => hlt) HBS.out).mono ?_
                  rintro e e3 ⟨rfl, hb⟩
                  have HL10 := Lib.hid ((HL9.out.trans (HE2.out.mono HL9.out.size)).trans (hb.mono (by have := HE2.out.size; have := HL9.out.size; omega)))
                  clear hb
                  go_wp2_with fail
                  go_ret
                  exact ⟨rfl, HL10.out⟩
                have g1d : decide (sk < z0) = false := by simpa using g1
                by_cases g2 : z1 < sk
                · have g2d : decide (z1 < sk) = true := by simpa using g2
                  have HBS := Lib.hid (HBRK.out (.inr g2))
                  clear g1 g2
                  go_quiet (fail)
                  have HE2 : Hid (Below wr.heap.size wr (e1.drewN nq)) := Lib.hid (below_quiet HE1.out ⟨nq, rfl⟩)
                  generalize e1.drewN nq = e2 at HE2 ⊢
                  go_wp2_with fail
                  refine (broken_12 D2 n c2 W2.heap.size k (lastP x.bd rA rc rf sb P s) e2 (by have := HE2.out.size; omega) (HPQ.out _ HE2.out) HPG.out HRI.out (fun _ _ => hlt) HBS.out).mono ?_
                  rintro e e3 ⟨rfl, hb⟩
                  have HL10 := Lib.hid ((HL9.out.trans (HE2.out.mono HL9.out.size)).trans (hb.mono (by have := HE2.out.size; have := HL9.out.size; omega)))
                  clear hb
                  go_wp2_with fail
                  go_ret
                  exact ⟨rfl, HL10.out⟩
                have g2d : decide (z1 < sk) = false := by simpa using g2
                obtain ⟨r, hr⟩ : ∃ r, r = max z2 (z - kpH cp hi' sp k FN) := ⟨_, rfl⟩
                have HKP := Lib.hid (HKEEP.out ⟨by omega, by omega⟩ r hr)
                have HRE := Lib.hid HREL.out
                rw [← hr] at HRE
                clear g1 g2 hr HREL HBRK HKEEP HBT
                go_quiet (fail)
                have HE2 : Hid (Below wr.heap.size wr (e1.drewN nq)) := Lib.hid (below_quiet HE1.out ⟨nq, rfl⟩)
                have HX2 := Lib.hid (HX1.out.drewN nq)
                generalize e1.drewN nq = e2 at HE2 HX2 ⊢
                clear HE1 HX1 m0 m1 s1
                clear e1
                have c0 : e2.cell? ⟨cb, 0, none⟩ = some (.int .i64 cp) := (HKQ.out _ HE2.out).cell 0
                have c1 : e2.cell? ⟨cb, 1, none⟩ = some (.int .i64 st) := (HKQ.out _ HE2.out).cell 1
                have cc2 : e2.cell? ⟨cb, 2, none⟩ = some (.int .i64 fl) := (HKQ.out _ HE2.out).cell 2
                have c3 : e2.cell? ⟨cb, 3, none⟩ = some (.slice (some ⟨g, 0, none⟩) P cva) := (HKQ.out _ HE2.out).cell 3
                go_wp2_with fail
                refine (HCR.out e2 HE2.out).mono ?_
                rintro e e3 ⟨rfl, hb⟩
                rw [HRE.out.1, HRE.out.2]
                have HE3 := Lib.hid (HE2.out.trans (hb.mono HE2.out.size))
                have HX3 := Lib.hid (HX2.out.below hb HX2.out.lt)
                clear hb c0 c1 cc2 c3 HE2 HX2 HCR HRE
                clear e2
                obtain ⟨hk1, hk2, hk3, hk4⟩ := HKP.out
                obtain ⟨ny, hny⟩ : ∃ ny, ny = nxN cp z r sk := ⟨_, rfl⟩
                obtain ⟨ns, hns⟩ : ∃ ns, ns = nxS cp z r sk := ⟨_, rfl⟩
                have HNT : Hid (nxV cp st fl P lo' hi' dm ou sp (k : Int) z r sk = .tuple #[.int .i64 ny, .int .i64 ns, .bool true, .int .i64 0]) := Lib.hid (by
                  rw [HNX.out r ⟨by omega, by omega⟩ hk1, HNO.out, decide_eq_true hk2, hny, hns]
                  rfl)
                have HCM : Hid (∀ W, Below wr.heap.size wr W → Calls Tryz.prog 14 #[.agg #[.int .i64 cp, .int .i64 st, .int .i64 fl, .slice (some ⟨g, 0, none⟩) P cva], .int .i64 k, .int .i64 z, .int .i64 r, .int .i64 sk] W fun e w' => e = .returned (.tuple #[.int .i64 ny, .int .i64 ns, .bool true, .int .i64 0]) ∧ Below W.heap.size W w') := Lib.hid fun W h => by
                  have h9 := HCN.out r W h
                  rw [HNT.out] at h9
                  exact h9
                rw [← hny] at hk3 hk4
                rw [← hns] at hk2
                have HK3' := Lib.hid hk3
                clear HNX HNO HCN HNT HKP hny hns hk3
                have HPR : Hid (∀ W, Below wr.heap.size wr W → (fun w' : World => w'.cell? ⟨cb, 0, none⟩ = some (.int .i64 cp) ∧ w'.cell? ⟨cb, 1, none⟩ = some (.int .i64 st) ∧ w'.cell? ⟨cb, 2, none⟩ = some (.int .i64 fl) ∧ w'.cell? ⟨cb, 3, none⟩ = some (.slice (some ⟨g, 0, none⟩) P cva) ∧ w'.cell? ⟨sb, k, none⟩ = some (.int .i64 sk)) W) := Lib.hid fun W h => by
                  have y := HKQ.out W h
                  exact ⟨y.cell 0, y.cell 1, y.cell 2, y.cell 3, (h.cell (p := ⟨sb, k, none⟩) hsr).trans HS0.out⟩
                go_upto_region 46 with fail
                go_cut [38, 39, 40, 41] from 306 to 348 (fun s13 s14 s15 s16 wc => s13 = .int .i64 ny ∧ s14 = .int .i64 ns ∧ s15 = .bool true ∧ s16 = .int .i64 0 ∧ Hid (Below e3.heap.size e3 wc))
                case first =>
                  refine wp_region_tail (fun _ => True) (fun w' : World => w'.cell? ⟨cb, 0, none⟩ = some (.int .i64 cp) ∧ w'.cell? ⟨cb, 1, none⟩ = some (.int .i64 st) ∧ w'.cell? ⟨cb, 2, none⟩ = some (.int .i64 fl) ∧ w'.cell? ⟨cb, 3, none⟩ = some (.slice (some ⟨g, 0, none⟩) P cva) ∧ w'.cell? ⟨sb, k, none⟩ = some (.int .i64 sk)) 17 17 (by kernel_rfl) ⟨trivial, HPR.out _ HE3.out.drew⟩ (fun hHeld => ?_)
                  refine wpAnyT_takeB (i := 0) (v := .agg #[.int .i64 cp, .int .i64 st, .int .i64 fl, .slice (some ⟨g, 0, none⟩) P cva]) rfl (by kernel_rfl) (by kernel_rfl) (by kernel_rfl) (by kernel_rfl) (by kernel_rfl) (by decide) (by decide) (fun _ _ _ h => h) (Or.inl ⟨by kernel_rfl, ?_⟩) hHeld ?_
                  · intro w' hSw
                    obtain ⟨o0, o1, o2, o3, o4⟩ := hSw
                    go_simp
                  refine wpAnyT_takeB (i := 1) (v := .int .i64 k) rfl (by kernel_rfl) (by kernel_rfl) (by kernel_rfl) (by kernel_rfl) (by kernel_rfl) (by decide) (by decide) (fun _ _ _ h => h) (Or.inl ⟨by kernel_rfl, ?_⟩) hHeld ?_
                  · intro w' hSw
                    obtain ⟨o0, o1, o2, o3, o4⟩ := hSw
                    go_simp
                  simp only [Act.put]
                  refine wpAnyT_takeB (i := 2) (v := .int .i64 z) rfl (by kernel_rfl) (by kernel_rfl) (by kernel_rfl) (by kernel_rfl) (by kernel_rfl) (by decide) (by decide) (fun _ _ _ h => h) (Or.inl ⟨by kernel_rfl, ?_⟩) hHeld ?_
                  · intro w' hSw
                    obtain ⟨o0, o1, o2, o3, o4⟩ := hSw
                    go_simp
                  refine wpAnyT_takeB (i := 3) (v := .int .i64 r) rfl (by kernel_rfl) (by kernel_rfl) (by kernel_rfl) (by kernel_rfl) (by kernel_rfl) (by decide) (by decide) (fun _ _ _ h => h) (Or.inl ⟨by kernel_rfl, ?_⟩) hHeld ?_
                  · intro w' hSw
                    obtain ⟨o0, o1, o2, o3, o4⟩ := hSw
                    go_simp
                  simp only [Act.put]
                  refine wpAnyT_takeB (i := 4) (v := .slice (some ⟨sb, 0, none⟩) P P) rfl (by kernel_rfl) (by kernel_rfl) (by kernel_rfl) (by kernel_rfl) (by kernel_rfl) (by decide) (by decide) (fun _ _ _ h => h) (Or.inl ⟨by kernel_rfl, ?_⟩) hHeld ?_
                  · intro w' hSw
                    obtain ⟨o0, o1, o2, o3, o4⟩ := hSw
                    go_simp
                  refine wpAnyT_takeB (i := 5) (v := .int .i64 k) rfl (by kernel_rfl) (by kernel_rfl) (by kernel_rfl) (by kernel_rfl) (by kernel_rfl) (by decide) (by decide) (fun _ _ _ h => h) (Or.inl ⟨by kernel_rfl, ?_⟩) hHeld ?_
                  · intro w' hSw
                    obtain ⟨o0, o1, o2, o3, o4⟩ := hSw
                    go_simp
                  simp only [Act.put]
                  refine wpAnyT_takeB (i := 6) (v := .pointer (some ⟨sb, k, none⟩)) rfl (by kernel_rfl) (by kernel_rfl) (by kernel_rfl) (by kernel_rfl) (by kernel_rfl) (by decide) (by decide) (fun _ _ _ h => h) (Or.inl ⟨by kernel_rfl, ?_⟩) hHeld ?_
                  · intro w' hSw
                    obtain ⟨o0, o1, o2, o3, o4⟩ := hSw
                    go_simp
                  refine wpAnyT_takeB (i := 7) (v := .int .i64 sk) rfl (by kernel_rfl) (by kernel_rfl) (by kernel_rfl) (by kernel_rfl) (by kernel_rfl) (by decide) (by decide) (fun _ _ _ h => h) (Or.inl ⟨by kernel_rfl, ?_⟩) hHeld ?_
                  · intro w' hSw
                    obtain ⟨o0, o1, o2, o3, o4⟩ := hSw
                    go_simp
                  simp only [Act.put]
                  refine wpAnyT_one (T := (fun w' : World => w'.cell? ⟨cb, 0, none⟩ = some (.int .i64 cp) ∧ w'.cell? ⟨cb, 1, none⟩ = some (.int .i64 st) ∧ w'.cell? ⟨cb, 2, none⟩ = some (.int .i64 fl) ∧ w'.cell? ⟨cb, 3, none⟩ = some (.slice (some ⟨g, 0, none⟩) P cva) ∧ w'.cell? ⟨sb, k, none⟩ = some (.int .i64 sk))) (i := 8) (by kernel_rfl) rfl (fun _ h => ⟨fun _ => trivial, fun _ => h⟩) (fun K hK => ?_)
                  go_simp
                  go_at_call 14
                  refine (HCM.out e3.drew HE3.out.drew).mono ?_
                  rintro e d1 ⟨rfl, hd1⟩
                  have HD1 : Below e3.heap.size e3 d1 := (Below.refl e3.heap.size e3).drew.trans hd1
                  refine hK.out _ _ (HPR.out _ (HE3.out.trans (HD1.mono HE3.out.size))) (fun hH => ?_)
                  have hHeld := And.intro trivial hH
                  clear hK K
                  refine wpAnyT_takeB (i := 9) (v := .tuple #[.int .i64 ny, .int .i64 ns, .bool true, .int .i64 0]) rfl (by kernel_rfl) (by kernel_rfl) (by kernel_rfl) (by kernel_rfl) (by kernel_rfl) (by decide) (by decide) (fun _ _ _ h => h) (Or.inl ⟨by kernel_rfl, ?_⟩) hHeld ?_
                  · intro w' hSw
                    obtain ⟨o0, o1, o2, o3, o4⟩ := hSw
                    go_simp
                  refine wpAnyT_takeB (i := 10) (v := .int .i64 ny) rfl (by kernel_rfl) (by kernel_rfl) (by kernel_rfl) (by kernel_rfl) (by kernel_rfl) (by decide) (by decide) (fun _ _ _ h => h) (Or.inl ⟨by kernel_rfl, ?_⟩) hHeld ?_
                  · intro w' hSw
                    obtain ⟨o0, o1, o2, o3, o4⟩ := hSw
                    go_simp
                  simp only [Act.put]
                  refine wpAnyT_takeB (i := 11) (v := .int .i64 ns) rfl (by kernel_rfl) (by kernel_rfl) (by kernel_rfl) (by kernel_rfl) (by kernel_rfl) (by decide) (by decide) (fun _ _ _ h => h) (Or.inl ⟨by kernel_rfl, ?_⟩) hHeld ?_
                  · intro w' hSw
                    obtain ⟨o0, o1, o2, o3, o4⟩ := hSw
                    go_simp
                  refine wpAnyT_takeB (i := 12) (v := .bool true) rfl (by kernel_rfl) (by kernel_rfl) (by kernel_rfl) (by kernel_rfl) (by kernel_rfl) (by decide) (by decide) (fun _ _ _ h => h) (Or.inl ⟨by kernel_rfl, ?_⟩) hHeld ?_
                  · intro w' hSw
                    obtain ⟨o0, o1, o2, o3, o4⟩ := hSw
                    go_simp
                  simp only [Act.put]
                  refine wpAnyT_takeB (i := 13) (v := .int .i64 0) rfl (by kernel_rfl) (by kernel_rfl) (by kernel_rfl) (by kernel_rfl) (by kernel_rfl) (by decide) (by decide) (fun _ _ _ h => h) (Or.inl ⟨by kernel_rfl, ?_⟩) hHeld ?_
                  · intro w' hSw
                    obtain ⟨o0, o1, o2, o3, o4⟩ := hSw
                    go_simp
                  simp only [Act.put]
                  refine wpAnyT_one (T := (fun w' : World => w'.cell? ⟨cb, 0, none⟩ = some (.int .i64 cp) ∧ w'.cell? ⟨cb, 1, none⟩ = some (.int .i64 st) ∧ w'.cell? ⟨cb, 2, none⟩ = some (.int .i64 fl) ∧ w'.cell? ⟨cb, 3, none⟩ = some (.slice (some ⟨g, 0, none⟩) P cva) ∧ w'.cell? ⟨sb, k, none⟩ = some (.int .i64 sk))) (i := 14) (by kernel_rfl) rfl (fun _ h => ⟨fun _ => trivial, fun _ => h⟩) (fun K hK => ?_)
                  go_simp
                  refine hK.out _ _ (HPR.out _ (HE3.out.trans (HD1.mono HE3.out.size))) (fun _ => ?_)
                  clear hK K
                  refine wpAnyT_one (T := (fun w' : World => w'.cell? ⟨cb, 0, none⟩ = some (.int .i64 cp) ∧ w'.cell? ⟨cb, 1, none⟩ = some (.int .i64 st) ∧ w'.cell? ⟨cb, 2, none⟩ = some (.int .i64 fl) ∧ w'.cell? ⟨cb, 3, none⟩ = some (.slice (some ⟨g, 0, none⟩) P cva) ∧ w'.cell? ⟨sb, k, none⟩ = some (.int .i64 sk))) (i := 15) (by kernel_rfl) rfl (fun _ h => ⟨fun _ => trivial, fun _ => h⟩) (fun K hK => ?_)
                  go_simp
                  refine hK.out _ _ (HPR.out _ (HE3.out.trans (HD1.mono HE3.out.size))) (fun _ => ?_)
                  clear hK K
                  refine wpAnyT_one (T := (fun w' : World => w'.cell? ⟨cb, 0, none⟩ = some (.int .i64 cp) ∧ w'.cell? ⟨cb, 1, none⟩ = some (.int .i64 st) ∧ w'.cell? ⟨cb, 2, none⟩ = some (.int .i64 fl) ∧ w'.cell? ⟨cb, 3, none⟩ = some (.slice (some ⟨g, 0, none⟩) P cva) ∧ w'.cell? ⟨sb, k, none⟩ = some (.int .i64 sk))) (i := 16) (by kernel_rfl) rfl (fun _ h => ⟨fun _ => trivial, fun _ => h⟩) (fun K hK => ?_)
                  go_simp
                  refine hK.out _ _ (HPR.out _ (HE3.out.trans (HD1.mono HE3.out.size))) (fun _ => ?_)
                  clear hK K
                  refine wpAnyT_one (T := (fun w' : World => w'.cell? ⟨cb, 0, none⟩ = some (.int .i64 cp) ∧ w'.cell? ⟨cb, 1, none⟩ = some (.int .i64 st) ∧ w'.cell? ⟨cb, 2, none⟩ = some (.int .i64 fl) ∧ w'.cell? ⟨cb, 3, none⟩ = some (.slice (some ⟨g, 0, none⟩) P cva) ∧ w'.cell? ⟨sb, k, none⟩ = some (.int .i64 sk))) (i := 17) (by kernel_rfl) rfl (fun _ h => ⟨fun _ => trivial, fun _ => h⟩) (fun K hK => ?_)
                  go_simp
                  refine hK.out _ _ (HPR.out _ (HE3.out.trans (HD1.mono HE3.out.size))) (fun _ => ?_)
                  clear hK K
                  refine wpAnyT_done (by kernel_rfl) ?_
                  go_wp2_with fail
                  go_meet
                  case rel => exact ⟨rfl, rfl, rfl, rfl, Lib.hid HD1⟩
                case rest =>
                  obtain ⟨rfl, rfl, rfl, rfl, HD⟩ := hcut
                  have HX4 := Lib.hid (HX3.out.below HD.out HX3.out.lt)
                  have HE4 := Lib.hid (HE3.out.trans (HD.out.mono HE3.out.size))
                  have p1 : wc.cell? ⟨wr.heap.size, 2, none⟩ = some (.int .i64 z2) := HX4.out.cell 2
                  have p1' : wc.cell? ⟨wr.heap.size, 1 + 1, none⟩ = some (.int .i64 z2) := HX4.out.cell 2
                  have p3 : wc.cell? ⟨wr.heap.size, 4, none⟩ = some (.int .i64 z4) := HX4.out.cell 4
                  have p3' : wc.cell? ⟨wr.heap.size, 3 + 1, none⟩ = some (.int .i64 z4) := HX4.out.cell 4
                  have u1 : decide (r < z2) = false := by rw [decide_eq_false_iff_not]; omega
                  have u2 : decide (z < r) = false := by rw [decide_eq_false_iff_not]; omega
                  have u3 : decide (z4 < ns) = false := by rw [decide_eq_false_iff_not]; omega
                  have HBF := Lib.hid (HEW.out.trans (HE4.out.mono hzr))
                  clear HX4 HE4 HX3 HE3 HD HPR HCM
                  go_wp2_with fail
                  go_roundw
                  case rel => exact ⟨k + 1, ny, by omega, by go_num, rfl, Lib.hid (by rw [← HFN.out]; exact HK3'.out), hk4, HBF⟩
                  case measure => simp [intOf]; omega
            have hlt : k < P := by omega
            have hlt' : (k : Int) < (P : Int) := by omega
            rcases HRr.out with h0 | ⟨g', cur, e, hbase', hg, hsz, hcur⟩
            · omega
            cases e
            obtain ⟨b', o', e', _, q0, q1⟩ := rng_at HMr.out hlt
            cases e'
            have q0' : wr.cell? ⟨mb, k * 2, none⟩ = some (.int .i64 (f k).1) := by simpa using q0
            have q1' : wr.cell? ⟨mb, k * 2 + 1, none⟩ = some (.int .i64 (f k).2) := by simpa using q1
            have d3 : wr.cell? ⟨cb, 2 + 1, none⟩ = some (.slice (some ⟨g, 0, none⟩) P cva) := HKr.out.cell 3
            have d3' : wr.cell? ⟨cb, 3, none⟩ = some (.slice (some ⟨g, 0, none⟩) P cva) := HKr.out.cell 3
            have z0 : wr.cell? ⟨g, k * 5, none⟩ = some _ := (hg.cell _).trans (hcur (k * 5) (by omega))
            have z1 : wr.cell? ⟨g, k * 5 + 1, none⟩ = some _ := (hg.cell _).trans (hcur (k * 5 + 1) (by omega))
            have fz0 := hg.frozen (k * 5)
            have fz1 := hg.frozen (k * 5 + 1)
            have HRN : Hid (∀ W : World, Blk W g 55 cur → RowP ((W.setCell ⟨g, k * 5, none⟩ (.int .i64 (f k).1)).setCell ⟨g, k * 5 + 1, none⟩ (.int .i64 (f k).2)) w3.heap.size (some ⟨g, 0, none⟩) P (mlo f lo (k + 1)) (mhi f hi (k + 1)) dm ou sp) := Lib.hid fun W hW => RowP.setm hbase' hW hsz hcur hlt
            have HGB := Lib.hid hg
            clear hg hcur q0 q1 HRr HMr
            generalize (f k).1 = a0 at *
            generalize (f k).2 = a1 at *
            go_upto_region 32 with fail
            go_still_tail 9, (by kernel_rfl)
            change wpList _ _ _ _ _ wr.drew
            have y0' : wr.drew.cell? ⟨g, k * 5, none⟩ = some _ := z0
            have y1' : wr.drew.cell? ⟨g, k * 5 + 1, none⟩ = some _ := z1
            have fy0 : wr.drew.frozen? ⟨g, k * 5, none⟩ = false := fz0
            have fy1 : wr.drew.frozen? ⟨g, k * 5 + 1, none⟩ = false := fz1
            have HBN : Hid (Below w3.heap.size w4 ((wr.setCell ⟨g, k * 5, none⟩ (.int .i64 a0)).setCell ⟨g, k * 5 + 1, none⟩ (.int .i64 a1)).drew) := Lib.hid ((HB.out.setCell (p := ⟨g, k * 5, none⟩) (show w3.heap.size ≤ g by omega) _).setCell (p := ⟨g, k * 5 + 1, none⟩) (show w3.heap.size ≤ g by omega) _).drew
            have HRN2 : Hid (RowP ((wr.setCell ⟨g, k * 5, none⟩ (.int .i64 a0)).setCell ⟨g, k * 5 + 1, none⟩ (.int .i64 a1)).drew w3.heap.size (some ⟨g, 0, none⟩) P (mlo f lo (k + 1)) (mhi f hi (k + 1)) dm ou sp) := Lib.hid (HRN.out wr HGB.out)
            clear q0' q1' d3 d3' HRN HGB HB HKr
            go_wp2_with fail
            go_roundw
            case rel => exact ⟨k + 1, by omega, by go_num, HRN2, HBN⟩
            case measure => simp [intOf]; omega
        have hlt : k < n := by omega
        have hlt' : (k : Int) < (n : Int) := by omega
        have hes := HE.out.below (HLr.out.mono hB)
        have HEN := Lib.hid ((HE.out.2 k hlt).1)
        have hen := (HE.out.2 k hlt).2
        obtain ⟨rb, ro, rfl, hrb, r0, r1, r2⟩ := ens_at hes hlt
        have HPV : Hid (∀ k', k = k' + 1 → ∀ W', Below wr.heap.size wr W' → W'.cell? ⟨rb, ro + k' * 3, none⟩ = some (.int .i64 (x.bd k'))) := Lib.hid fun k' hk' W' hb' => by
          obtain ⟨rb', ro', e', _, q0, _⟩ := ens_at hes (show k' < n by omega)
          cases e'
          exact (hb'.cell (p := ⟨rb, ro + k' * 3, none⟩) (show rb < wr.heap.size by omega)).trans q0
        clear hes
        obtain ⟨y0, hy0⟩ : ∃ y, y = x.bd k := ⟨_, rfl⟩
        obtain ⟨y1, hy1⟩ : ∃ y, y = x.md k := ⟨_, rfl⟩
        obtain ⟨y2, hy2⟩ : ∃ y, y = x.eA k := ⟨_, rfl⟩
        obtain ⟨y3, hy3⟩ : ∃ y, y = x.en k := ⟨_, rfl⟩
        obtain ⟨y4, hy4⟩ : ∃ y, y = x.ec k := ⟨_, rfl⟩
        obtain ⟨ye, hye⟩ : ∃ y, y = x.ex k := ⟨_, rfl⟩
        rw [← hy0] at r0
        rw [← hy1] at r1
        rw [← hy2, ← hy3, ← hy4] at r2
        rw [← hy2, ← hy3, ← hye] at HEN
        rw [← hy3] at hen
        have HY0 := Lib.hid hy0
        clear hy0 hy1 hy2 hy3 hy4 hye
        go_upto_region 17 with fail
        obtain ⟨e1, he1⟩ : ∃ zz, zz = wr.alloc (.cells #[.int .i64 y0, .int .i64 y1, .slice y2 y3 y4] 40) := ⟨_, rfl⟩
        have HX1 : Hid (Blk e1 wr.heap.size 40 #[.int .i64 y0, .int .i64 y1, .slice y2 y3 y4]) := Lib.hid (he1 ▸ Blk.new _ _ _)
        have HE1 : Hid (Below wr.heap.size wr e1) := Lib.hid (he1 ▸ below_alloc _ _)
        rw [← he1]
        clear he1 r0 r1 r2
        have HJ1 := Lib.hid (HJ.out.below (HW.out.trans (HE1.out.mono hzr1)) HJ.out.lt)
        have HL1 := Lib.hid (HLr.out.trans (HE1.out.mono hzr))
        have hz1 := HE1.out.size
        have t0 : e1.cell? ⟨wr.heap.size, 0, none⟩ = some (.int .i64 y0) := HX1.out.cell 0
        have t1 : e1.cell? ⟨wr.heap.size, 1, none⟩ = some (.int .i64 y1) := HX1.out.cell 1
        have t2 : e1.cell? ⟨wr.heap.size, 2, none⟩ = some (.slice y2 y3 y4) := HX1.out.cell 2
        have t2' : e1.cell? ⟨wr.heap.size, 1 + 1, none⟩ = some (.slice y2 y3 y4) := HX1.out.cell 2
        have j0 : e1.cell? ⟨w.heap.size, 0, none⟩ = some (.int .i64 fa) := HJ1.out.cell 0
        have j1 : e1.cell? ⟨w.heap.size, 1, none⟩ = some (.int .i64 of_) := HJ1.out.cell 1
        have hwl : IntKind.i64.wrap (lw : Int) = lw := IntWalk.i64_in _ ⟨by omega, by omega⟩
        have hwh : IntKind.i64.wrap (hg : Int) = hg := IntWalk.i64_in _ ⟨by omega, by omega⟩
        go_wp2_with fail
        refine (bounds_6 y0 y1 lw hg fa of_ y2 C y3 y4 m d B ye p e1 hen hm (by omega) (by omega) (HEN.out.below (HL1.out.mono hB)) (HP.out.below (HL1.out.mono hB))).mono ?_
        rintro e w2 ⟨⟨D, L, dc, E, f, rfl, hL16, hown, hE, -⟩, hb⟩
        have HEE := Lib.hid hE
        have HOW := Lib.hid hown
        have HE2 := Lib.hid (HE1.out.trans (hb.mono hz1))
        have HX2 := Lib.hid (HX1.out.below hb HX1.out.lt)
        have hz2 := HE2.out.size
        have hxl := HX2.out.lt
        clear hE hown hb t0 t1 t2 t2' j0 j1 HX1 HJ1 HL1 hwl hwh
        have HK2 := Lib.hid (HK.out.below (HW.out.trans (HE2.out.mono hzr1)) hcW)
        have HJ2 := Lib.hid (HJ.out.below (HW.out.trans (HE2.out.mono hzr1)) HJ.out.lt)
        have HL2 := Lib.hid (HLr.out.trans (HE2.out.mono hzr))
        have c3 : w2.cell? ⟨cb, 3, none⟩ = some (.slice PA P pc) := HK2.out.cell 3
        have c3' : w2.cell? ⟨cb, 2 + 1, none⟩ = some (.slice PA P pc) := HK2.out.cell 3
        have t0 : w2.cell? ⟨wr.heap.size, 0, none⟩ = some (.int .i64 y0) := HX2.out.cell 0
        obtain ⟨V, hV⟩ : ∃ V : Bool, V = decide (¬ E = 0 ∨ ¬ L = P ∨ (0 < k ∧ x.bd k ≤ x.bd (k - 1))) := ⟨_, rfl⟩
        have HV := Lib.hid hV
        clear hV
        have HPW := Lib.hid (fun k' h' => HPV.out k' h' w2 HE2.out)
        clear HPV
        go_upto_region 18 with fail
        go_cut [128] from 104 to 160 (fun s8 wc => s8 = .bool V ∧ Hid (∃ q, wc = w2.drewN q))
        case first =>
          by_cases g1 : ¬ E = 0
          · have hVt : V = true := by rw [HV.out]; exact decide_eq_true (.inl g1)
            subst hVt
            have g1d : (E != 0) = true := by simpa using g1
            clear g1
            go_quiet (fail)
            go_wp2_with fail
            go_meet
            case rel => exact ⟨rfl, Lib.hid ⟨_, rfl⟩⟩
          have g1d : (E != 0) = false := by simpa using g1
          have g1e : E = 0 := by omega
          by_cases g2 : ¬ L = P
          · have hVt : V = true := by rw [HV.out]; exact decide_eq_true (.inr (.inl g2))
            subst hVt
            have g2d : ((L : Int) != (P : Int)) = true := by simp; omega
            clear g1 g1e g2
            go_quiet (fail)
            go_wp2_with fail
            go_meet
            case rel => exact ⟨rfl, Lib.hid ⟨_, rfl⟩⟩
          have g2d : ((L : Int) != (P : Int)) = false := by simp; omega
          by_cases g3 : k = 0
          · have hVf : V = false := by rw [HV.out]; exact decide_eq_false (by omega)
            subst hVf
            have g3d : decide ((0 : Int) < (k : Int)) = false := by rw [decide_eq_false_iff_not]; omega
            have g3e : decide (0 < k) = false := by rw [decide_eq_false_iff_not]; omega
            have g3f : (0 < k) = False := eq_false (by omega)
            clear g1 g1e g2 g3
            go_quiet (fail)
            go_wp2_with fail
            go_meet
            case rel => exact ⟨rfl, Lib.hid ⟨_, rfl⟩⟩
          obtain ⟨k', hk'⟩ : ∃ k', k = k' + 1 := ⟨k - 1, by omega⟩
          have g3d : decide ((0 : Int) < (k : Int)) = true := by rw [decide_eq_true_iff]; omega
          have g3e : decide (0 < k) = true := by rw [decide_eq_true_iff]; omega
          have g3f : (0 < k) = True := eq_true (by omega)
          have q0 := HPW.out k' hk'
          have hY0 := HY0.out
          have hwk : IntKind.i64.wrap ((k : Int) - 1) = (k' : Int) := by rw [show (k : Int) - 1 = (k' : Int) by omega]; exact IntWalk.i64_in _ ⟨by omega, by omega⟩
          have hkn' : (k' : Int) < (n : Int) := by omega
          have hkm : k - 1 = k' := by omega
          have HKM := Lib.hid hkm
          clear hk' g3 hkm
          by_cases g4 : y0 ≤ x.bd k'
          · have hVt : V = true := by rw [HV.out]; exact decide_eq_true (.inr (.inr ⟨by have := of_decide_eq_true g3d; omega, by rw [HKM.out, ← hY0]; exact g4⟩))
            subst hVt
            have g4d : decide (y0 ≤ x.bd k') = true := by simpa using g4
            clear g1 g1e g2 g4 hY0
            go_quiet (fail)
            go_wp2_with fail
            go_meet
            case rel => exact ⟨rfl, Lib.hid ⟨_, rfl⟩⟩
          · have hVf : V = false := by
              rw [HV.out]
              refine decide_eq_false fun h => ?_
              rcases h with h | h | ⟨_, h⟩
              · exact g1 h
              · exact g2 h
              · rw [HKM.out, ← hY0] at h
                exact g4 h
            subst hVf
            have g4d : decide (y0 ≤ x.bd k') = false := by simpa using g4
            clear g1 g1e g2 g4 hY0
            go_quiet (fail)
            go_wp2_with fail
            go_meet
            case rel => exact ⟨rfl, Lib.hid ⟨_, rfl⟩⟩
        case rest =>
          obtain ⟨rfl, HQ⟩ := hcut
          obtain ⟨q, hq⟩ := HQ.out
          have HX3 : Hid (Blk wc wr.heap.size 40 #[.int .i64 y0, .int .i64 y1, .slice y2 y3 y4]) := Lib.hid (by rw [hq]; exact HX2.out.drewN q)
          have HE3 : Hid (Below wr.heap.size wr wc) := Lib.hid (by rw [hq]; exact below_quiet HE2.out ⟨q, rfl⟩)
          have HO3 : Hid (wc.ownsRow e1.heap.size 53 2 (.slice D L dc) L (rowR f L)) := Lib.hid (by rw [hq]; exact HOW.out)
          clear hq HQ HX2 HE2 HOW c3 c3' t0 HK2 HJ2 HPW
          have HL3 := Lib.hid (HLr.out.trans (HE3.out.mono hzr))
          cases V
          case true =>
            go_wp2_with fail
            go_ret
            exact ⟨rfl, HL3.out⟩
          have hv0 := of_decide_eq_false HV.out.symm
          have hE0 : E = 0 := by omega
          subst hE0
          have hLP : L = P := by omega
          subst L
          have hbk : 0 < k → x.bd (k - 1) < x.bd k := fun h => by omega
          have HDG := Lib.hid (HEE.out rfl).2
          have HGL : Hid (LGood x.bd P (upd rf k f) (k + 1)) := Lib.hid (HG.out.push (by rw [← HY0.out]; exact HDG.out.2.1) (HEE.out rfl).1 hbk)
          clear hv0 hbk HV HEE HG
          obtain ⟨wq, hwq⟩ : ∃ zz, zz = wc := ⟨_, rfl⟩
          rw [← hwq]
          rw [← hwq] at HX3 HE3 HO3 HL3
          clear hwq
          clear wc
          have HJ3 := Lib.hid (HJ.out.below (HW.out.trans (HE3.out.mono hzr1)) HJ.out.lt)
          have t0 : wq.cell? ⟨wr.heap.size, 0, none⟩ = some (.int .i64 y0) := HX3.out.cell 0
          have j0 : wq.cell? ⟨w.heap.size, 0, none⟩ = some (.int .i64 fa) := HJ3.out.cell 0
          have j1 : wq.cell? ⟨w.heap.size, 1, none⟩ = some (.int .i64 of_) := HJ3.out.cell 1
          have hz3 := HL3.out.size
          go_wp2_with fail
          refine (Margin_7 C m d B p y0 fa of_ wq hm (by omega) (HP.out.below (HL3.out.mono hB))).mono ?_
          rintro e w3 ⟨⟨mg, E2, rfl, hE2, hM⟩, hb⟩
          obtain rfl : E2 = 0 := hE2.2 HDG.out
          have HMG := Lib.hid (hM rfl)
          have HX4 := Lib.hid (HX3.out.below hb HX3.out.lt)
          have HE4 := Lib.hid (HE3.out.trans (hb.mono HE3.out.size))
          have HO4 := Lib.hid (own_below HO3.out hb)
          have HL4 := Lib.hid (HL3.out.trans (hb.mono hz3))
          have HJ4 := Lib.hid (HJ3.out.below hb HJ3.out.lt)
          clear hE2 hM hb t0 j0 j1 HX3 HE3 HO3 HL3 HJ3 hz3
          clear wq
          have t0 : w3.cell? ⟨wr.heap.size, 0, none⟩ = some (.int .i64 y0) := HX4.out.cell 0
          have j0 : w3.cell? ⟨w.heap.size, 0, none⟩ = some (.int .i64 fa) := HJ4.out.cell 0
          have j1 : w3.cell? ⟨w.heap.size, 1, none⟩ = some (.int .i64 of_) := HJ4.out.cell 1
          have hz4 := HL4.out.size
          go_wp2_with fail
          refine (calibrated_8 C m d B p y0 mg fa of_ w3 (by omega) (HP.out.below (HL4.out.mono hB)) HDG.out HMG.out.1.1 HMG.out.1.2).mono ?_
          rintro e w9 ⟨rfl, hb⟩
          have HX5 := Lib.hid (HX4.out.below hb HX4.out.lt)
          have HE5 := Lib.hid (HE4.out.trans (hb.mono HE4.out.size))
          have HO5 := Lib.hid (own_below HO4.out hb)
          have HL5 := Lib.hid (HL4.out.trans (hb.mono hz4))
          clear hb t0 j0 j1 HX4 HE4 HO4 HL4 HJ4 hz4 HMG HDG
          clear w3
          have hS0 : StG w9.drew W1 W1.heap.size wr.heap.size P (k + 1) #[.int .i64 y0, .int .i64 y1, .slice y2 y3 y4] (upd rA k D) (upd rc k dc) (upd rf k f) (.slice D1 k c1) k (rowA P rA rc k) (.slice D2 k c2) k (rowC (lastP x.bd rA rc rf sb P s) k) := StG.drew ⟨HX5.out, own_below HO1.out HE5.out, own_below HO2.out HE5.out, (HR.out.below HE5.out).push (own_weaken HO5.out (by omega)), HW.out.trans (HE5.out.mono hzr1), by have := HE5.out.size; omega⟩
          have HPU : Hid (rowC (lastP x.bd rA rc rf sb P s) k ++ [.int .i64 y0, .slice D P dc, .slice (some ⟨sb, 0, none⟩) P P] = rowC (lastP x.bd (upd rA k D) (upd rc k dc) (upd rf k f) sb P s) (k + 1)) := Lib.hid (by rw [HY0.out]; exact lastP_push _ _ _ _ _ _ _ _ _ _ _)
          have hk4 : k ≤ 3 := by omega
          go_upto_region 23 with fail
          clear HX5 HE5 HO5 HL5 HO1 HO2 HR HW HLr
          generalize wr.heap.size = xb at *
          refine wp_region_tail (fun _ => True) (fun w' : World => w'.cell? ⟨xb, 0, none⟩ = some (.int .i64 y0)) 13 13 (by kernel_rfl) ⟨trivial, hS0.1.cell 0⟩ (fun hHeld => ?_)
          refine wpAnyT_takeB (i := 0) (v := .slice D1 k c1) rfl (by kernel_rfl) (by kernel_rfl) (by kernel_rfl) (by kernel_rfl) (by kernel_rfl) (by decide) (by decide) (fun _ _ _ h => h) (Or.inl ⟨by kernel_rfl, ?_⟩) hHeld ?_
          · intro w' hSw
            go_simp
          refine wpAnyT_takeB (i := 1) (v := .slice D P dc) rfl (by kernel_rfl) (by kernel_rfl) (by kernel_rfl) (by kernel_rfl) (by kernel_rfl) (by decide) (by decide) (fun _ _ _ h => h) (Or.inl ⟨by kernel_rfl, ?_⟩) hHeld ?_
          · intro w' hSw
            go_simp
          simp only [Act.put]
          refine wpAnyT_takeB (i := 4) (v := .slice D2 k c2) rfl (by kernel_rfl) (by kernel_rfl) (by kernel_rfl) (by kernel_rfl) (by kernel_rfl) (by decide) (by decide) (fun _ _ _ h => h) (Or.inl ⟨by kernel_rfl, ?_⟩) hHeld ?_
          · intro w' hSw
            go_simp
          refine wpAnyT_takeB (i := 5) (v := .pointer (some ⟨xb, 0, none⟩)) rfl (by kernel_rfl) (by kernel_rfl) (by kernel_rfl) (by kernel_rfl) (by kernel_rfl) (by decide) (by decide) (fun _ _ _ h => h) (Or.inl ⟨by kernel_rfl, ?_⟩) hHeld ?_
          · intro w' hSw
            go_simp
          simp only [Act.put]
          refine wpAnyT_takeB (i := 6) (v := .int .i64 y0) rfl (by kernel_rfl) (by kernel_rfl) (by kernel_rfl) (by kernel_rfl) (by kernel_rfl) (by decide) (by decide) (fun _ _ _ h => h) (Or.inl ⟨by kernel_rfl, ?_⟩) hHeld ?_
          · intro w' hSw
            go_simp
          refine wpAnyT_takeB (i := 7) (v := .slice D P dc) rfl (by kernel_rfl) (by kernel_rfl) (by kernel_rfl) (by kernel_rfl) (by kernel_rfl) (by decide) (by decide) (fun _ _ _ h => h) (Or.inl ⟨by kernel_rfl, ?_⟩) hHeld ?_
          · intro w' hSw
            go_simp
          simp only [Act.put]
          refine wpAnyT_takeB (i := 8) (v := .slice (some ⟨sb, 0, none⟩) P P) rfl (by kernel_rfl) (by kernel_rfl) (by kernel_rfl) (by kernel_rfl) (by kernel_rfl) (by decide) (by decide) (fun _ _ _ h => h) (Or.inl ⟨by kernel_rfl, ?_⟩) hHeld ?_
          · intro w' hSw
            go_simp
          refine wpAnyT_takeB (i := 9) (v := .agg #[.int .i64 y0, .slice D P dc, .slice (some ⟨sb, 0, none⟩) P P]) rfl (by kernel_rfl) (by kernel_rfl) (by kernel_rfl) (by kernel_rfl) (by kernel_rfl) (by decide) (by decide) (fun _ _ _ h => h) (Or.inl ⟨by kernel_rfl, ?_⟩) hHeld ?_
          · intro w' hSw
            go_simp
          simp only [Act.put]
          clear hHeld
          generalize w9.drew = d0 at hS0 ⊢
          refine wpAnyT_two (T := fun w' => True ∧ w'.cell? ⟨xb, 0, none⟩ = some (.int .i64 y0)) (i := 2) (j := 10) (by kernel_rfl) rfl rfl Ob.head Ob.head (fun K hK => ?_) (fun K hK => ?_)
          · go_simp
            obtain ⟨d1, hd⟩ : ∃ zz, zz = d0.alloc (.cells #[.slice D P dc] 41) := ⟨_, rfl⟩
            have hN1 : Blk d1 d0.heap.size 41 #[.slice D P dc] := hd ▸ Blk.new _ _ _
            have hS1 : StG d1 W1 W1.heap.size xb P (k + 1) #[.int .i64 y0, .int .i64 y1, .slice y2 y3 y4] (upd rA k D) (upd rc k dc) (upd rf k f) (.slice D1 k c1) k (rowA P rA rc k) (.slice D2 k c2) k (rowC (lastP x.bd rA rc rf sb P s) k) := hd ▸ hS0.alloc _
            rw [← hd]
            clear hd
            refine hK.out _ _ ⟨trivial, hS1.1.cell 0⟩ (fun _ => ?_)
            clear hK K
            refine wpAnyT_two (T := fun w' => True ∧ w'.cell? ⟨xb, 0, none⟩ = some (.int .i64 y0)) (i := 3) (j := 10) (by kernel_rfl) rfl rfl Ob.head Ob.head (fun K hK => ?_) (fun K hK => ?_)
            · refine step_append_any rfl (.tmp 148) (.tmp 150) 35 rfl W1.heap.size 41 i41 (.slice none 0 0) 1 24 Tryz.underlying35 h41a h41b h41c h41d rfl (by decide) (.slice D1 k c1) k (rowA P rA rc k) rfl hS1.2.1 (some ⟨d0.heap.size, 0, none⟩) 1 1 [.slice D P dc] rfl rfl (fun h => by cases h) (fun a ha => by cases ha; exact cell_slice_new hN1) (by simp [Value.oneCell']) (by unfold maxLen; omega) (by omega) hS1.2.2.2.2.2 ?_
              intro v1 d2 hown1 hgrow _
              have hS2 : StG d2 W1 W1.heap.size xb P (k + 1) #[.int .i64 y0, .int .i64 y1, .slice y2 y3 y4] (upd rA k D) (upd rc k dc) (upd rf k f) v1 (k + 1) (rowA P (upd rA k D) (upd rc k dc) (k + 1)) (.slice D2 k c2) k (rowC (lastP x.bd rA rc rf sb P s) k) := hS1.push1 hgrow (by rw [← rowA_push]; exact hown1)
              clear hown1 hgrow
              refine hK.out _ _ ⟨trivial, hS2.1.cell 0⟩ (fun _ => ?_)
              clear hK K
              refine wpAnyT_one (T := fun w' => True ∧ w'.cell? ⟨xb, 0, none⟩ = some (.int .i64 y0)) (i := 10) (by kernel_rfl) rfl Ob.head (fun K hK => ?_)
              go_simp
              obtain ⟨d3, hd⟩ : ∃ zz, zz = d2.alloc (.cells #[.int .i64 y0, .slice D P dc, .slice (some ⟨sb, 0, none⟩) P P] 49) := ⟨_, rfl⟩
              have hN2 : Blk d3 d2.heap.size 49 #[.int .i64 y0, .slice D P dc, .slice (some ⟨sb, 0, none⟩) P P] := hd ▸ Blk.new _ _ _
              have hS3 : StG d3 W1 W1.heap.size xb P (k + 1) #[.int .i64 y0, .int .i64 y1, .slice y2 y3 y4] (upd rA k D) (upd rc k dc) (upd rf k f) v1 (k + 1) (rowA P (upd rA k D) (upd rc k dc) (k + 1)) (.slice D2 k c2) k (rowC (lastP x.bd rA rc rf sb P s) k) := hd ▸ hS2.alloc _
              rw [← hd]
              clear hd
              refine hK.out _ _ ⟨trivial, hS3.1.cell 0⟩ (fun _ => ?_)
              clear hK K
              refine wpAnyT_one (T := fun w' => True ∧ w'.cell? ⟨xb, 0, none⟩ = some (.int .i64 y0)) (i := 11) (by kernel_rfl) rfl Ob.head (fun K hK => ?_)
              refine step_append_any rfl (.tmp 152) (.tmp 158) 23 rfl W1.heap.size 49 i49 (.agg #[.int .i64 0, .slice none 0 0, .slice none 0 0]) 3 56 Tryz.underlying23 h49a h49b h49c h49d rfl (by decide) (.slice D2 k c2) k (rowC (lastP x.bd rA rc rf sb P s) k) rfl hS3.2.2.1 (some ⟨d2.heap.size, 0, none⟩) 1 1 [.int .i64 y0, .slice D P dc, .slice (some ⟨sb, 0, none⟩) P P] rfl rfl (fun h => by cases h) (fun a ha => by cases ha; exact cell_three_of hN2) (one_three _ _ _ _ _ _ _) (by unfold maxLen; omega) (by omega) hS3.2.2.2.2.2 ?_
              intro v2 d4 hown2 hgrow _
              have hS4 : StG d4 W1 W1.heap.size xb P (k + 1) #[.int .i64 y0, .int .i64 y1, .slice y2 y3 y4] (upd rA k D) (upd rc k dc) (upd rf k f) v1 (k + 1) (rowA P (upd rA k D) (upd rc k dc) (k + 1)) v2 (k + 1) (rowC (lastP x.bd (upd rA k D) (upd rc k dc) (upd rf k f) sb P s) (k + 1)) := hS3.push2 hgrow (by rw [← HPU.out]; exact hown2)
              clear hown2 hgrow
              refine hK.out _ _ ⟨trivial, hS4.1.cell 0⟩ (fun _ => ?_)
              clear hK K
              refine wpAnyT_one (T := fun w' => True ∧ w'.cell? ⟨xb, 0, none⟩ = some (.int .i64 y0)) (i := 12) (by kernel_rfl) rfl Ob.head (fun K hK => ?_)
              go_simp
              refine hK.out _ _ ⟨trivial, hS4.1.cell 0⟩ (fun _ => ?_)
              clear hK K
              refine wpAnyT_one (T := fun _ => True) (i := 13) (by kernel_rfl) rfl (Ob.last (by kernel_rfl) (by kernel_rfl)) (fun K hK => ?_)
              go_simp
              refine hK.out _ _ trivial (fun _ => ?_)
              clear hK K
              refine wpAnyT_done (by kernel_rfl) ?_
              go_wp2_with fail
              go_roundw
              case rel => exact ⟨k + 1, _, _, _, by omega, by go_num, Lib.hid hS4.2.1, Lib.hid hS4.2.2.1, Lib.hid hS4.2.2.2.1, HGL, Lib.hid hS4.2.2.2.2.1⟩
              case measure => simp [intOf]; omega
            · go_simp
              obtain ⟨d2, hd⟩ : ∃ zz, zz = d1.alloc (.cells #[.int .i64 y0, .slice D P dc, .slice (some ⟨sb, 0, none⟩) P P] 49) := ⟨_, rfl⟩
              have hN2 : Blk d2 d1.heap.size 49 #[.int .i64 y0, .slice D P dc, .slice (some ⟨sb, 0, none⟩) P P] := hd ▸ Blk.new _ _ _
              have hS2 : StG d2 W1 W1.heap.size xb P (k + 1) #[.int .i64 y0, .int .i64 y1, .slice y2 y3 y4] (upd rA k D) (upd rc k dc) (upd rf k f) (.slice D1 k c1) k (rowA P rA rc k) (.slice D2 k c2) k (rowC (lastP x.bd rA rc rf sb P s) k) := hd ▸ hS1.alloc _
              have hN1 : Blk d2 d0.heap.size 41 #[.slice D P dc] := hd ▸ hN1.alloc _
              rw [← hd]
              clear hd
              refine hK.out _ _ ⟨trivial, hS2.1.cell 0⟩ (fun _ => ?_)
              clear hK K
              refine wpAnyT_one (T := fun w' => True ∧ w'.cell? ⟨xb, 0, none⟩ = some (.int .i64 y0)) (i := 3) (by kernel_rfl) rfl Ob.head (fun K hK => ?_)
              refine step_append_any rfl (.tmp 148) (.tmp 150) 35 rfl W1.heap.size 41 i41 (.slice none 0 0) 1 24 Tryz.underlying35 h41a h41b h41c h41d rfl (by decide) (.slice D1 k c1) k (rowA P rA rc k) rfl hS2.2.1 (some ⟨d0.heap.size, 0, none⟩) 1 1 [.slice D P dc] rfl rfl (fun h => by cases h) (fun a ha => by cases ha; exact cell_slice_new hN1) (by simp [Value.oneCell']) (by unfold maxLen; omega) (by omega) hS2.2.2.2.2.2 ?_
              intro v1 d3 hown1 hgrow _
              have hS3 : StG d3 W1 W1.heap.size xb P (k + 1) #[.int .i64 y0, .int .i64 y1, .slice y2 y3 y4] (upd rA k D) (upd rc k dc) (upd rf k f) v1 (k + 1) (rowA P (upd rA k D) (upd rc k dc) (k + 1)) (.slice D2 k c2) k (rowC (lastP x.bd rA rc rf sb P s) k) := hS2.push1 hgrow (by rw [← rowA_push]; exact hown1)
              have hN2 := hS2.keep1 hgrow hN2 (by decide)
              clear hown1 hgrow
              refine hK.out _ _ ⟨trivial, hS3.1.cell 0⟩ (fun _ => ?_)
              clear hK K
              refine wpAnyT_one (T := fun w' => True ∧ w'.cell? ⟨xb, 0, none⟩ = some (.int .i64 y0)) (i := 11) (by kernel_rfl) rfl Ob.head (fun K hK => ?_)
              refine step_append_any rfl (.tmp 152) (.tmp 158) 23 rfl W1.heap.size 49 i49 (.agg #[.int .i64 0, .slice none 0 0, .slice none 0 0]) 3 56 Tryz.underlying23 h49a h49b h49c h49d rfl (by decide) (.slice D2 k c2) k (rowC (lastP x.bd rA rc rf sb P s) k) rfl hS3.2.2.1 (some ⟨d1.heap.size, 0, none⟩) 1 1 [.int .i64 y0, .slice D P dc, .slice (some ⟨sb, 0, none⟩) P P] rfl rfl (fun h => by cases h) (fun a ha => by cases ha; exact cell_three_of hN2) (one_three _ _ _ _ _ _ _) (by unfold maxLen; omega) (by omega) hS3.2.2.2.2.2 ?_
              intro v2 d4 hown2 hgrow _
              have hS4 : StG d4 W1 W1.heap.size xb P (k + 1) #[.int .i64 y0, .int .i64 y1, .slice y2 y3 y4] (upd rA k D) (upd rc k dc) (upd rf k f) v1 (k + 1) (rowA P (upd rA k D) (upd rc k dc) (k + 1)) v2 (k + 1) (rowC (lastP x.bd (upd rA k D) (upd rc k dc) (upd rf k f) sb P s) (k + 1)) := hS3.push2 hgrow (by rw [← HPU.out]; exact hown2)
              clear hown2 hgrow
              refine hK.out _ _ ⟨trivial, hS4.1.cell 0⟩ (fun _ => ?_)
              clear hK K
              refine wpAnyT_one (T := fun w' => True ∧ w'.cell? ⟨xb, 0, none⟩ = some (.int .i64 y0)) (i := 12) (by kernel_rfl) rfl Ob.head (fun K hK => ?_)
              go_simp
              refine hK.out _ _ ⟨trivial, hS4.1.cell 0⟩ (fun _ => ?_)
              clear hK K
              refine wpAnyT_one (T := fun _ => True) (i := 13) (by kernel_rfl) rfl (Ob.last (by kernel_rfl) (by kernel_rfl)) (fun K hK => ?_)
              go_simp
              refine hK.out _ _ trivial (fun _ => ?_)
              clear hK K
              refine wpAnyT_done (by kernel_rfl) ?_
              go_wp2_with fail
              go_roundw
              case rel => exact ⟨k + 1, _, _, _, by omega, by go_num, Lib.hid hS4.2.1, Lib.hid hS4.2.2.1, Lib.hid hS4.2.2.2.1, HGL, Lib.hid hS4.2.2.2.2.1⟩
              case measure => simp [intOf]; omega
          · go_simp
            obtain ⟨d1, hd⟩ : ∃ zz, zz = d0.alloc (.cells #[.int .i64 y0, .slice D P dc, .slice (some ⟨sb, 0, none⟩) P P] 49) := ⟨_, rfl⟩
            have hN2 : Blk d1 d0.heap.size 49 #[.int .i64 y0, .slice D P dc, .slice (some ⟨sb, 0, none⟩) P P] := hd ▸ Blk.new _ _ _
            have hS1 : StG d1 W1 W1.heap.size xb P (k + 1) #[.int .i64 y0, .int .i64 y1, .slice y2 y3 y4] (upd rA k D) (upd rc k dc) (upd rf k f) (.slice D1 k c1) k (rowA P rA rc k) (.slice D2 k c2) k (rowC (lastP x.bd rA rc rf sb P s) k) := hd ▸ hS0.alloc _
            rw [← hd]
            clear hd
            refine hK.out _ _ ⟨trivial, hS1.1.cell 0⟩ (fun _ => ?_)
            clear hK K
            refine wpAnyT_one (T := fun w' => True ∧ w'.cell? ⟨xb, 0, none⟩ = some (.int .i64 y0)) (i := 2) (by kernel_rfl) rfl Ob.head (fun K hK => ?_)
            go_simp
            obtain ⟨d2, hd⟩ : ∃ zz, zz = d1.alloc (.cells #[.slice D P dc] 41) := ⟨_, rfl⟩
            have hN1 : Blk d2 d1.heap.size 41 #[.slice D P dc] := hd ▸ Blk.new _ _ _
            have hS2 : StG d2 W1 W1.heap.size xb P (k + 1) #[.int .i64 y0, .int .i64 y1, .slice y2 y3 y4] (upd rA k D) (upd rc k dc) (upd rf k f) (.slice D1 k c1) k (rowA P rA rc k) (.slice D2 k c2) k (rowC (lastP x.bd rA rc rf sb P s) k) := hd ▸ hS1.alloc _
            have hN2 : Blk d2 d0.heap.size 49 #[.int .i64 y0, .slice D P dc, .slice (some ⟨sb, 0, none⟩) P P] := hd ▸ hN2.alloc _
            rw [← hd]
            clear hd
            refine hK.out _ _ ⟨trivial, hS2.1.cell 0⟩ (fun _ => ?_)
            clear hK K
            refine wpAnyT_one (T := fun w' => True ∧ w'.cell? ⟨xb, 0, none⟩ = some (.int .i64 y0)) (i := 3) (by kernel_rfl) rfl Ob.head (fun K hK => ?_)
            refine step_append_any rfl (.tmp 148) (.tmp 150) 35 rfl W1.heap.size 41 i41 (.slice none 0 0) 1 24 Tryz.underlying35 h41a h41b h41c h41d rfl (by decide) (.slice D1 k c1) k (rowA P rA rc k) rfl hS2.2.1 (some ⟨d1.heap.size, 0, none⟩) 1 1 [.slice D P dc] rfl rfl (fun h => by cases h) (fun a ha => by cases ha; exact cell_slice_new hN1) (by simp [Value.oneCell']) (by unfold maxLen; omega) (by omega) hS2.2.2.2.2.2 ?_
            intro v1 d3 hown1 hgrow _
            have hS3 : StG d3 W1 W1.heap.size xb P (k + 1) #[.int .i64 y0, .int .i64 y1, .slice y2 y3 y4] (upd rA k D) (upd rc k dc) (upd rf k f) v1 (k + 1) (rowA P (upd rA k D) (upd rc k dc) (k + 1)) (.slice D2 k c2) k (rowC (lastP x.bd rA rc rf sb P s) k) := hS2.push1 hgrow (by rw [← rowA_push]; exact hown1)
            have hN2 := hS2.keep1 hgrow hN2 (by decide)
            clear hown1 hgrow
            refine hK.out _ _ ⟨trivial, hS3.1.cell 0⟩ (fun _ => ?_)
            clear hK K
            refine wpAnyT_one (T := fun w' => True ∧ w'.cell? ⟨xb, 0, none⟩ = some (.int .i64 y0)) (i := 11) (by kernel_rfl) rfl Ob.head (fun K hK => ?_)
            refine step_append_any rfl (.tmp 152) (.tmp 158) 23 rfl W1.heap.size 49 i49 (.agg #[.int .i64 0, .slice none 0 0, .slice none 0 0]) 3 56 Tryz.underlying23 h49a h49b h49c h49d rfl (by decide) (.slice D2 k c2) k (rowC (lastP x.bd rA rc rf sb P s) k) rfl hS3.2.2.1 (some ⟨d0.heap.size, 0, none⟩) 1 1 [.int .i64 y0, .slice D P dc, .slice (some ⟨sb, 0, none⟩) P P] rfl rfl (fun h => by cases h) (fun a ha => by cases ha; exact cell_three_of hN2) (one_three _ _ _ _ _ _ _) (by unfold maxLen; omega) (by omega) hS3.2.2.2.2.2 ?_
            intro v2 d4 hown2 hgrow _
            have hS4 : StG d4 W1 W1.heap.size xb P (k + 1) #[.int .i64 y0, .int .i64 y1, .slice y2 y3 y4] (upd rA k D) (upd rc k dc) (upd rf k f) v1 (k + 1) (rowA P (upd rA k D) (upd rc k dc) (k + 1)) v2 (k + 1) (rowC (lastP x.bd (upd rA k D) (upd rc k dc) (upd rf k f) sb P s) (k + 1)) := hS3.push2 hgrow (by rw [← HPU.out]; exact hown2)
            clear hown2 hgrow
            refine hK.out _ _ ⟨trivial, hS4.1.cell 0⟩ (fun _ => ?_)
            clear hK K
            refine wpAnyT_one (T := fun w' => True ∧ w'.cell? ⟨xb, 0, none⟩ = some (.int .i64 y0)) (i := 12) (by kernel_rfl) rfl Ob.head (fun K hK => ?_)
            go_simp
            refine hK.out _ _ ⟨trivial, hS4.1.cell 0⟩ (fun _ => ?_)
            clear hK K
            refine wpAnyT_one (T := fun _ => True) (i := 13) (by kernel_rfl) rfl (Ob.last (by kernel_rfl) (by kernel_rfl)) (fun K hK => ?_)
            go_simp
            refine hK.out _ _ trivial (fun _ => ?_)
            clear hK K
            refine wpAnyT_done (by kernel_rfl) ?_
            go_wp2_with fail
            go_roundw
            case rel => exact ⟨k + 1, _, _, _, by omega, by go_num, Lib.hid hS4.2.1, Lib.hid hS4.2.2.1, Lib.hid hS4.2.2.2.1, HGL, Lib.hid hS4.2.2.2.2.1⟩
            case measure => simp [intOf]; omega
    have hlt : k < P := by omega
    have hlt' : (k : Int) < (P : Int) := by omega
    by_cases hki : ¬ k < iN
    · have hki' : ¬ (k : Int) < (iN : Int) := by omega
      have HS2 : Hid (RowN wr sb P (svP sv (k + 1))) := Lib.hid (by rw [svP_skip (HSO.out k hki)]; exact HS.out)
      go_wp2_with fail
      go_roundw
      case rel => exact ⟨k + 1, by omega, by go_num, HS2, HJ, HK, HL⟩
      case measure => simp [intOf]; omega
    have hki : k < iN := by omega
    have hki' : (k : Int) < (iN : Int) := by omega
    obtain ⟨ib, io, rfl, _, hic⟩ := (HI.out.below (HL.out.mono hB)) (by omega)
    have q0 : wr.cell? ⟨ib, io + k, none⟩ = some (.int .u32 (inf k)) := hic k hki
    have hik := HIF.out k hki
    have hw1 : IntKind.i64.wrap (inf k : Int) = inf k := IntWalk.i64_in _ ⟨by omega, by omega⟩
    obtain ⟨s0, sf⟩ := HS.out.cell hlt
    have HS2 : Hid (RowN (wr.setCell ⟨sb, k, none⟩ (.int .i64 (inf k))) sb P (svP sv (k + 1))) := Lib.hid (by
      have h9 := HS.out.set_ hlt (inf k)
      rw [← HSI.out k hki, svP_upd] at h9
      rw [← HSI.out k hki]
      exact h9)
    have HJ2 := Lib.hid (HJ.out.far (p := ⟨sb, k, none⟩) (show w.heap.size ≠ sb by omega) (.int .i64 (inf k)))
    have HK2 := Lib.hid (HK.out.far (p := ⟨sb, k, none⟩) (show cb ≠ sb by omega) (.int .i64 (inf k)))
    have HL2 := Lib.hid (HL.out.setCell (p := ⟨sb, k, none⟩) (show w.heap.size ≤ sb by omega) (.int .i64 (inf k)))
    clear hic hik HS HJ HK HL
    go_wp2_with fail
    go_roundw
    case rel => exact ⟨k + 1, by omega, by go_num, HS2, HJ2, HK2, HL2⟩
    case measure => simp [intOf]; omega
end Go.Proofs.YtonkjnkokikpgaaGreat
