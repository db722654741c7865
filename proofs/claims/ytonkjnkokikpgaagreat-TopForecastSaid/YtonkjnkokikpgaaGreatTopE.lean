/- The top: contract of paid39. -/
import Derived.Test.YtonkjnkokikpgaaGreatTopC
import Derived.Test.YtonkjnkokikpgaaGreatSettle
import Derived.BigQuiet
namespace Go.Proofs.YtonkjnkokikpgaaGreat
open Go.RowKit

/-- a stake for each body and period -/
def stkOf (p : PastF) (P dn : Nat) (df : Nat → Nat) : StkF := { bd := fun r => p.bd (r / P), pd := fun r => ((r % P : Nat) : Int), dp := fun r => if r < dn then (df r : Int) else 0, rt := fun r => 1 + ((r % P : Nat) : Int) }
theorem stkOf_at {p : PastF} {P dn : Nat} {df : Nat → Nat} {k q L : Nat} (hL : L = k * P + q) (hq : q < P) : (stkOf p P dn df).bd L = p.bd k ∧ (stkOf p P dn df).pd L = q ∧ (stkOf p P dn df).rt L = 1 + q := by
  have h1 : L / P = k := by
    rw [hL, Nat.add_comm, Nat.add_mul_div_right _ _ (by omega), Nat.div_eq_of_lt hq, Nat.zero_add]
  have h2 : L % P = q := by
    rw [hL, Nat.add_comm, Nat.add_mul_mod_self_right, Nat.mod_eq_of_lt hq]
  unfold stkOf
  simp only
  rw [h1, h2]
  exact ⟨rfl, rfl, rfl⟩
theorem stkOf_parts {P m r : Nat} (hr : r < m * P) : r / P < m ∧ r % P < P ∧ r = r / P * P + r % P := by
  have hP : 0 < P := by
    rcases Nat.eq_zero_or_pos P with h | h
    · subst h; omega
    · exact h
  refine ⟨Nat.div_lt_of_lt_mul (by rw [Nat.mul_comm]; exact hr), Nat.mod_lt _ hP, ?_⟩
  have := Nat.div_add_mod r P
  rw [Nat.mul_comm] at this
  exact this.symm
theorem stkOf_good {p : PastF} {m P dn : Nat} {df : Nat → Nat} (hg : PGood m p) (hri : Rises m p.bd) (hm : m ≤ 4) (hP : P ≤ 8) (hdf : ∀ j, j < dn → df j ≤ 65535) : StGood (m * P) (stkOf p P dn df) := by
  refine ⟨Nat.le_trans (Nat.mul_le_mul hm hP) (by omega), fun r hr => ?_, fun r hr => ?_⟩
  · obtain ⟨h1, h2, h3⟩ := stkOf_parts hr
    obtain ⟨e1, e2, e3⟩ := stkOf_at (p := p) (dn := dn) (df := df) h3 h2
    rw [e1, e2, e3]
    have h4 := (hg.2 _ h1).1
    refine ⟨h4, by omega, ?_, by omega⟩
    show 0 ≤ (if r < dn then (df r : Int) else 0) ∧ (if r < dn then (df r : Int) else 0) ≤ 1073741824
    split
    · have := hdf r (by omega)
      omega
    · omega
  · obtain ⟨h1, h2, h3⟩ := stkOf_parts (show r < m * P by omega)
    obtain ⟨e1, e2, e3⟩ := stkOf_at (p := p) (dn := dn) (df := df) h3 h2
    obtain ⟨g1, g2, g3⟩ := stkOf_parts hr
    obtain ⟨f1, f2, f3⟩ := stkOf_at (p := p) (dn := dn) (df := df) g3 g2
    rw [e1, e2, f1, f2]
    by_cases h : r % P + 1 < P
    · have hd : (r + 1) / P = r / P := by
        rw [show r + 1 = (r % P + 1) + r / P * P by omega, Nat.add_mul_div_right _ _ (by omega), Nat.div_eq_of_lt h, Nat.zero_add]
      have hm' : (r + 1) % P = r % P + 1 := by
        rw [show r + 1 = (r % P + 1) + r / P * P by omega, Nat.add_mul_mod_self_right, Nat.mod_eq_of_lt h]
      rw [hd, hm']
      omega
    · have hp1 : r % P + 1 = P := by omega
      have hd : (r + 1) / P = r / P + 1 := by
        have h9 : r + 1 = 0 + (r / P + 1) * P := by rw [Nat.add_mul, Nat.one_mul]; omega
        rw [h9, Nat.add_mul_div_right _ _ (by omega), Nat.zero_div, Nat.zero_add]
      have h8 := hri (r / P) (r / P + 1) (by omega) (by rw [← hd]; exact g1)
      rw [hd]
      omega
theorem stkOf_fits {p : PastF} {m P dn : Nat} {df : Nat → Nat} (hrn : ∀ j, j < m → p.rn j = P) : Fits (m * P) m (stkOf p P dn df) p (fun r => r / P) := fun r hr => by
  obtain ⟨h1, h2, h3⟩ := stkOf_parts hr
  obtain ⟨e1, e2, e3⟩ := stkOf_at (p := p) (dn := dn) (df := df) h3 h2
  rw [e1, e2]
  exact ⟨h1, rfl, by rw [hrn _ h1, Int.toNat_natCast]; exact h2⟩
/-- the cells of n stakes -/
def rowK (s : StkF) (n : Nat) : List Value := (List.range (n * 4)).map s.cells
theorem rowK_succ (s : StkF) (k : Nat) : rowK s k ++ [.int .i64 (s.bd k), .int .i64 (s.pd k), .int .i64 (s.dp k), .int .i64 (s.rt k)] = rowK s (k + 1) := by
  unfold rowK
  rw [show (k + 1) * 4 = k * 4 + 1 + 1 + 1 + 1 by omega, List.range_succ, List.range_succ, List.range_succ, List.range_succ]
  have e0 : s.cells (k * 4) = .int .i64 (s.bd k) := by unfold StkF.cells; rw [if_pos (by omega), show k * 4 / 4 = k by omega]
  have e1 : s.cells (k * 4 + 1) = .int .i64 (s.pd k) := by unfold StkF.cells; rw [if_neg (by omega), if_pos (by omega), show (k * 4 + 1) / 4 = k by omega]
  have e2 : s.cells (k * 4 + 1 + 1) = .int .i64 (s.dp k) := by unfold StkF.cells; rw [if_neg (by omega), if_neg (by omega), if_pos (by omega), show (k * 4 + 1 + 1) / 4 = k by omega]
  have e3 : s.cells (k * 4 + 1 + 1 + 1) = .int .i64 (s.rt k) := by unfold StkF.cells; rw [if_neg (by omega), if_neg (by omega), if_neg (by omega), show (k * 4 + 1 + 1 + 1) / 4 = k by omega]
  simp only [List.map_append, List.map_cons, List.map_nil, e0, e1, e2, e3, List.append_assoc, List.cons_append, List.nil_append]
theorem rowK_rd {w : World} {base k c : Nat} {A : Option Addr} {s : StkF} (h : w.ownsRow base 65 4 (.slice A k c) k (rowK s k)) : Rd w w.heap.size A (k * 4) s.cells :=
  Rd.of_own h fun j hj => by simp [rowK, hj]
theorem info65 : (Tryz.prog.info? 65).map (fun i => (i.zero, i.size, i.bytes)) = some (some (.agg #[.int .i64 0, .int .i64 0, .int .i64 0, .int .i64 0]), 4, 32) := by kernel_rfl
theorem cell_four_new (w : World) (x y z u : Value) (t : TypeId) : ∀ j v, [x, y, z, u][j]? = some v → (w.alloc (.cells #[x, y, z, u] t)).cell? ((⟨w.heap.size, 0, none⟩ : Addr).add j) = some v := by
  intro j v hv
  have hb := Blk.new w t #[x, y, z, u]
  rw [Addr.add_lit, Nat.zero_add, hb.cell j]
  rw [← hv]
  simp
theorem one_four (a b c d : Int) : ∀ u ∈ [Value.int .i64 a, Value.int .i64 b, Value.int .i64 c, Value.int .i64 d], u.oneCell' = true := by
  intro u hu
  simp at hu
  rcases hu with rfl | rfl | rfl | rfl <;> rfl

set_option maxRecDepth 100000 in
set_option maxHeartbeats 4000000 in
theorem paid_11 (C dA kA : Option Addr) (m d P dn dc0 kn kc0 B : Nat) (df kf : Nat → Nat) (p : PastF) (w : World) (hB : B ≤ w.heap.size) (hp : PastRd w B C m p) (hpg : PGood m p) (hri : Rises m p.bd) (hrn : ∀ j, j < m → p.rn j = P) (hm : m ≤ 4) (hP : P ≤ 8)
    (hdn : dn ≤ 40) (hkn : kn ≤ 40) (hdr : Rd w B dA dn (fun j => .int .u16 (df j))) (hkr : Rd w B kA kn (fun j => .int .u16 (kf j))) (hdf : ∀ j, j < dn → df j ≤ 65535) (hkf : ∀ j, j < kn → kf j ≤ 65535) :
    Calls Tryz.prog 11 #[.slice C m d, .slice dA dn dc0, .slice kA kn kc0, .int .i64 P] w fun e w' => e = .returned (.bool true) ∧ Below w.heap.size w w' := by
  have HP := Lib.hid hp
  have HG := Lib.hid hpg
  have HI := Lib.hid hri
  have HRN := Lib.hid hrn
  have HDR := Lib.hid hdr
  have HKR := Lib.hid hkr
  have HDF := Lib.hid hdf
  have HKF := Lib.hid hkf
  obtain ⟨s, hs⟩ : ∃ s, s = stkOf p P dn df := ⟨_, rfl⟩
  have HS := Lib.hid hs
  have HSG : Hid (StGood (m * P) s) := Lib.hid (by rw [hs]; exact stkOf_good hpg hri hm hP hdf)
  have HSF : Hid (Fits (m * P) m s p (fun r => r / P)) := Lib.hid (by rw [hs]; exact stkOf_fits hrn)
  have HSA : Hid (∀ k q L, L = k * P + q → q < P → (s.bd L = p.bd k ∧ s.pd L = q ∧ s.rt L = 1 + q)) := Lib.hid fun k q L h1 h2 => by rw [hs]; exact stkOf_at h1 h2
  have HSD : Hid (∀ L, s.dp L = if L < dn then (df L : Int) else 0) := Lib.hid fun L => by rw [hs]; rfl
  have hmP : m * P ≤ 32 := Nat.le_trans (Nat.mul_le_mul hm hP) (by omega)
  clear hp hpg hri hrn hdr hkr hdf hkf hs
  go_enter Tryz.func11, Tryz.ntmps11
  obtain ⟨i0, hif, hzr0, hz1, hz2⟩ := info_parts info65
  go_wp2_with fail
  go_loopw [9, 28] (fun s9 i wr => ∃ (k L : Nat), k ≤ m ∧ i = .int .i64 k ∧ Hid (L = k * P) ∧ Hid (wr.ownsRow w.heap.size 65 4 s9 L (rowK s L)) ∧ Hid (Below w.heap.size w wr)) (fun _ i _ => m - (intOf i).toNat)
  case atStart => exact ⟨0, 0, Nat.zero_le _, rfl, Lib.hid (by omega), Lib.hid (World.ownsRow_nil _ _ _ _), Lib.hid (Below.refl _ _)⟩
  case round =>
    obtain ⟨k, L, hk, rfl, HLE, HO, HL⟩ := hrel
    have hzr := HL.out.size
    obtain ⟨D, dc, hs⟩ := own_form HO.out
    subst hs
    by_cases hlt : ¬ k < m
    · have hlt' : ¬ (k : Int) < (m : Int) := by omega
      have hkn' : k = m := by omega
      subst hkn'
      have HSG2 : Hid (StGood L s) := Lib.hid (by rw [HLE.out]; exact HSG.out)
      have HSF2 : Hid (Fits L k s p (fun r => r / P)) := Lib.hid (by rw [HLE.out]; exact HSF.out)
      have hL32 : L ≤ 32 := by rw [HLE.out]; exact hmP
      have HV : Hid (∀ i, i < L → (0 ≤ ffV s p (fun r => r / P) i ∧ ffV s p (fun r => r / P) i ≤ s.dp i) ∧ s.dp i ≤ 65535) := Lib.hid fun i hi => by
        have h1 := HSG2.out.2.1 i hi
        refine ⟨ffV_in s p (fun r => r / P) i h1.2.2.1.1 h1.2.2.2.1, ?_⟩
        rw [HSD.out]
        split
        · have := HDF.out i (by omega)
          omega
        · omega
      obtain ⟨W2, hW2⟩ : ∃ zz, zz = wr := ⟨_, rfl⟩
      rw [← hW2]
      rw [← hW2] at HO HL hzr
      clear hW2 HLE HSG HSF hmP
      clear wr
      obtain ⟨j0, hjf, hjr0, hj1, hj2⟩ := info_parts info3
      go_wp2_with fail
      go_loopw [15, 62] (fun s5 i wr => ∃ q : Nat, q ≤ kn ∧ i = .int .i64 q ∧ Hid (wr.ownsRow W2.heap.size 3 1 s5 q (rowOf (fun j => (kf j : Int)) q)) ∧ Hid (Below W2.heap.size W2 wr)) (fun _ i _ => kn - (intOf i).toNat)
      case atStart => exact ⟨0, Nat.zero_le _, rfl, Lib.hid (World.ownsRow_nil _ _ _ _), Lib.hid (Below.refl _ _)⟩
      case round =>
        obtain ⟨q, hq, rfl, HO5, HL5⟩ := hrel
        obtain ⟨E, ec, he⟩ := own_form HO5.out
        subst he
        have HLW := Lib.hid (HL.out.trans (HL5.out.mono hzr))
        have hzw := HL5.out.size
        by_cases hlq : ¬ q < kn
        · have hlq' : ¬ (q : Int) < (kn : Int) := by omega
          have hqk : q = kn := by omega
          subst hqk
          have HD5 := Lib.hid (own_below HO.out HL5.out)
          clear HO HL5 HSD HSA
          go_wp2_with fail
          refine (Settle_30 D C E L dc k d q ec wr.heap.size s p (fun r => r / P) kf wr (by omega) (by omega) (Nat.le_refl _) (rowK_rd HD5.out) HSG2.out (fun i hi => (HV.out i hi).2) ((HP.out.below (HLW.out.mono hB)).mono (by omega)) HG.out HI.out HSF2.out (rd_rowOf HO5.out) HKF.out).mono ?_
          rintro e W4 ⟨⟨D1, D2, c1, c2, rest, sv, rfl, hr1, hr2, hsum⟩, hb⟩
          have HR1 := Lib.hid hr1
          have HR2 := Lib.hid hr2
          have HD6 := Lib.hid (own_below HD5.out hb)
          have HLW4 := Lib.hid (HLW.out.trans (hb.mono HLW.out.size))
          have hz4 := HLW4.out.size
          obtain ⟨S, hS⟩ : ∃ S : Nat → Int, S = fun k => sumF (fzL s p (fun r => r / P) k) := ⟨_, rfl⟩
          have HS0 : Hid (S 0 = 0) := Lib.hid (by rw [hS]; rfl)
          have HSS : Hid (∀ i, S (i + 1) = S i + ffV s p (fun r => r / P) i) := Lib.hid fun i => by rw [hS]; simp only [fzL]; rw [sumF_snoc]
          have HSB : Hid (∀ i, i ≤ L → 0 ≤ S i ∧ S i ≤ 65535 * i) := Lib.hid fun i hi => by
            rw [hS]
            exact sumF_in s p (fun r => r / P) L (fun j hj => by have := HV.out j hj; omega) i hi
          have HSUM : Hid ((sumM sv q : Int) + rest = S L) := Lib.hid (by rw [hS]; exact hsum)
          have hrest : (rest : Int) ≤ 65535 * L := by have h1 := HSUM.out; have h2 := (HSB.out L (Nat.le_refl _)).2; omega
          have hsumM : (sumM sv q : Int) ≤ 65535 * L := by have h1 := HSUM.out; have h2 := (HSB.out L (Nat.le_refl _)).2; omega
          clear hr1 hr2 hb hsum hS HD5 HO5 HLW HS
          generalize ffV s p (fun r => r / P) = v at *
          obtain ⟨ri, hri⟩ : ∃ ri : Int, ri = rest := ⟨_, rfl⟩
          rw [← hri] at hrest
          rw [← hri] at HSUM
          simp only [← hri]
          have hri0 : 0 ≤ ri := by omega
          clear hri hzw
          clear wr
          go_wp2_with fail
          go_loopw [20, 107] (fun r i wr => ∃ (q : Nat) (R : Int), q ≤ L ∧ i = .int .i64 q ∧ r = .int .i64 R ∧ Hid (R = ri - S q) ∧ Hid (Below W4.heap.size W4 wr)) (fun _ i _ => L - (intOf i).toNat)
          case atStart => exact ⟨0, ri, Nat.zero_le _, rfl, rfl, Lib.hid (by rw [HS0.out]; omega), Lib.hid (Below.refl _ _)⟩
          case round =>
            obtain ⟨a, R, ha, rfl, rfl, HRE, HL6⟩ := hrel
            by_cases hla : ¬ a < L
            · have hla' : ¬ (a : Int) < (L : Int) := by omega
              have haL : a = L := by omega
              subst haL
              go_wp2_with fail
              go_loopw [20, 129] (fun r i wr => ∃ (b : Nat) (R : Int), b ≤ q ∧ i = .int .i64 b ∧ r = .int .i64 R ∧ Hid (R = ri - S a + sumM sv b) ∧ Hid (Below W4.heap.size W4 wr)) (fun _ i _ => q - (intOf i).toNat)
              case atStart => exact ⟨0, R, Nat.zero_le _, rfl, rfl, Lib.hid (by rw [HRE.out]; simp [sumM]), HL6⟩
              case round =>
                clear HRE HL6
                obtain ⟨b, R, hb, rfl, rfl, HRE, HL6⟩ := hrel
                by_cases hlb : ¬ b < q
                · have hlb' : ¬ (b : Int) < (q : Int) := by omega
                  have hbq : b = q := by omega
                  subst hbq
                  have hR : R = 0 := by rw [HRE.out]; have := HSUM.out; omega
                  subst hR
                  have HFI := Lib.hid (HLW4.out.trans (HL6.out.mono hz4))
                  go_wp2_with fail
                  go_ret
                  exact ⟨rfl, HFI.out⟩
                have hlb : b < q := by omega
                have hlb' : (b : Int) < (q : Int) := by omega
                obtain ⟨gb, go, rfl, _, hc⟩ := (HR2.out.below HL6.out) (by omega)
                have c0 : wr.cell? ⟨gb, go + b, none⟩ = some (.int .i64 (sv b)) := hc b hlb
                have hs1 : sumM sv b + sv b ≤ sumM sv q := sumM_mono sv (k := b + 1) q (by omega)
                have hSa := HSB.out a (Nat.le_refl _)
                have hRE := HRE.out
                have HNX : Hid (R + sv b = ri - S a + sumM sv (b + 1)) := Lib.hid (by rw [hRE]; simp only [sumM]; omega)
                have hw : IntKind.i64.wrap (R + (sv b : Int)) = R + (sv b : Int) := IntWalk.i64_in _ ⟨by omega, by omega⟩
                have hng : decide ((sv b : Int) < 0) = false := by rw [decide_eq_false_iff_not]; omega
                have hng' : ¬ ((sv b : Int) < 0) := by omega
                clear hc hs1 hRE hSa
                generalize (sv b : Int) = y at *
                go_wp2_with fail
                go_roundw
                case rel => exact ⟨b + 1, _, by omega, by go_num, rfl, HNX, HL6⟩
                case measure => simp [intOf]; omega
            have hla : a < L := by omega
            have hla' : (a : Int) < (L : Int) := by omega
            obtain ⟨gb, go, rfl, _, hc⟩ := (HR1.out.below HL6.out) (by omega)
            have c0 : wr.cell? ⟨gb, go + a, none⟩ = some (.int .i64 (v a)) := hc a hla
            obtain ⟨rb, ro, rfl, _, _, _, r2, _⟩ := stk_at (rowK_rd (own_below HD6.out HL6.out)) hla
            have r2' : wr.cell? ⟨rb, ro + a * 4 + 1 + 1, none⟩ = some (.int .i64 (s.dp a)) := r2
            have hva := HV.out a hla
            have hSa := HSB.out a (by omega)
            have hRE := HRE.out
            have HNX : Hid (R - v a = ri - S (a + 1)) := Lib.hid (by rw [hRE, HSS.out]; omega)
            have hw : IntKind.i64.wrap (R - v a) = R - v a := IntWalk.i64_in _ ⟨by omega, by omega⟩
            have hng : decide (v a < 0) = false := by rw [decide_eq_false_iff_not]; omega
            have hng2 : decide (s.dp a < v a) = false := by rw [decide_eq_false_iff_not]; omega
            clear hc hva hSa hRE
            generalize v a = y at *
            generalize s.dp a = y2 at *
            go_wp2_with fail
            go_roundw
            case rel => exact ⟨a + 1, _, by omega, by go_num, rfl, HNX, HL6⟩
            case measure => simp [intOf]; omega
        have hlq : q < kn := by omega
        have hlq' : (q : Int) < (kn : Int) := by omega
        obtain ⟨kb, ko, hka, _, hkc⟩ := (HKR.out.below (HLW.out.mono hB)) (by omega)
        have q0 : wr.cell? ⟨kb, ko + q, none⟩ = some (.int .u16 (kf q)) := hkc q hlq
        have hkq := HKF.out q hlq
        have HPU : Hid (rowOf (fun j => (kf j : Int)) q ++ [.int .i64 (kf q)] = rowOf (fun j => (kf j : Int)) (q + 1)) := Lib.hid (rowOf_succ _ _)
        have hw2 : IntKind.i64.wrap (kf q : Int) = kf q := IntWalk.i64_in _ ⟨by omega, by omega⟩
        clear hkc
        subst hka
        generalize (kf q : Int) = y at *
        go_wp2_with (at_builtin; refine wpList_append_own_at _ rfl _ _ 36 rfl W2.heap.size 3 j0 (.int .i64 0) 1 8 Tryz.underlying36 hjf hjr0 hj1 hj2 rfl (by decide) (.slice E q ec) q (rowOf (fun j => (kf j : Int)) q) rfl (HO5.out.alloc _) ⟨_, 0, none⟩ 1 1 [.int .i64 y] rfl rfl (cell_one_new _ _ _) (by simp [Value.oneCell']) (by unfold maxLen; omega) (by omega) (by simp; omega) ?_; intro v6 wb hown2 hgrow2 _ hat2)
        have HO6 : Hid (wb.ownsRow W2.heap.size 3 1 v6 (q + 1) (rowOf (fun j => (kf j : Int)) (q + 1))) := Lib.hid (by rw [← HPU.out]; exact hown2)
        have HL6 : Hid (Below W2.heap.size W2 wb) := Lib.hid ((HL5.out.trans (Below.mono (below_alloc _ _) HL5.out.size)).grown hgrow2 (by simp; omega) (fun j hj => (HO5.out.lt j hj).1))
        clear hown2 hgrow2 hat2
        go_wp2_with fail
        go_roundw
        case rel => exact ⟨q + 1, by omega, by go_num, HO6, HL6⟩
        case measure => simp [intOf]; omega
    have hlt : k < m := by omega
    have hlt' : (k : Int) < (m : Int) := by omega
    have hkP : k * P + P ≤ 32 := by
      have h1 : (k + 1) * P ≤ 4 * 8 := Nat.mul_le_mul (by omega) hP
      rw [Nat.add_mul, Nat.one_mul] at h1
      omega
    have HKP := Lib.hid hkP
    have hpp := HP.out.below (HL.out.mono hB)
    have hcc := hpp.1
    unfold PastF.cells at hcc
    obtain ⟨rb, ro, rfl, _, r0, r1, r2⟩ := pcc_at hcc hlt
    have HSK : Hid (∀ q L, L = k * P + q → q < P → (s.bd L = p.bd k ∧ s.pd L = q ∧ s.rt L = 1 + q)) := Lib.hid (HSA.out k)
    clear hcc hpp hkP hmP
    generalize p.bd k = x0 at *
    generalize p.rA k = x1 at *
    generalize p.rn k = x2 at *
    generalize p.rc k = x3 at *
    generalize p.sA k = x4 at *
    generalize p.sn k = x5 at *
    generalize p.sc k = x6 at *
    go_upto_region 5 with fail
    obtain ⟨e1, he1⟩ : ∃ zz, zz = wr.alloc (.cells #[.int .i64 x0, .slice x1 x2 x3, .slice x4 x5 x6] 49) := ⟨_, rfl⟩
    have HX1 : Hid (Blk e1 wr.heap.size 49 #[.int .i64 x0, .slice x1 x2 x3, .slice x4 x5 x6]) := Lib.hid (he1 ▸ Blk.new _ _ _)
    have HL1 : Hid (Below w.heap.size w e1) := Lib.hid (he1 ▸ HL.out.alloc hzr _)
    have HO1 : Hid (e1.ownsRow w.heap.size 65 4 (.slice D L dc) L (rowK s L)) := Lib.hid (he1 ▸ HO.out.alloc _)
    rw [← he1]
    clear he1 r0 r1 r2 HL HO
    have hx1 := HX1.out.lt
    generalize wr.heap.size = xb at *
    clear wr
    go_wp2_with fail
    go_loopw [9, 33] (fun s9 i wr => ∃ (q L : Nat), q ≤ P ∧ i = .int .i64 q ∧ Hid (L = k * P + q) ∧ Hid (wr.ownsRow w.heap.size 65 4 s9 L (rowK s L)) ∧ Hid (Blk wr xb 49 #[.int .i64 x0, .slice x1 x2 x3, .slice x4 x5 x6]) ∧ Hid (Below w.heap.size w wr)) (fun _ i _ => P - (intOf i).toNat)
    case atStart => exact ⟨0, L, Nat.zero_le _, rfl, HLE, HO1, HX1, HL1⟩
    case round =>
      clear HLE HO1 HX1 HL1 hx1
      obtain ⟨q, L, hq, rfl, HLE, HO, HX, HL⟩ := hrel
      have hzr := HL.out.size
      obtain ⟨D, dc, hs⟩ := own_form HO.out
      subst hs
      by_cases hlq : ¬ q < P
      · have hlq' : ¬ (q : Int) < (P : Int) := by omega
        go_wp2_with fail
        go_roundw
        case rel => exact ⟨k + 1, L, by omega, by go_num, Lib.hid (by have := HLE.out; rw [Nat.add_mul]; omega), HO, HL⟩
        case measure => simp [intOf]; omega
      have hlq : q < P := by omega
      have hlq' : (q : Int) < (P : Int) := by omega
      have hL32 : L ≤ 31 := by have := HLE.out; have := HKP.out; omega
      obtain ⟨r1, hr1⟩ : ∃ r1 : Int, r1 = 1 + q := ⟨_, rfl⟩
      have hw1 : IntKind.i64.wrap (1 + (q : Int)) = r1 := by rw [hr1]; exact IntWalk.i64_in _ ⟨by omega, by omega⟩
      obtain ⟨dp, hdp⟩ : ∃ dp, dp = s.dp L := ⟨_, rfl⟩
      have HPU : Hid (rowK s L ++ [.int .i64 x0, .int .i64 q, .int .i64 dp, .int .i64 r1] = rowK s (L + 1)) := Lib.hid (by
        obtain ⟨h1, h2, h3⟩ := HSK.out q L HLE.out hlq
        rw [← rowK_succ, h1, h2, h3, hdp, hr1])
      have HDP := Lib.hid (hdp.trans (HSD.out L))
      clear hdp hr1
      have y0 : wr.cell? ⟨xb, 0, none⟩ = some (.int .i64 x0) := HX.out.cell 0
      go_upto_region 9 with fail
      obtain ⟨e2, he2⟩ : ∃ zz, zz = wr.alloc (.cells #[.int .i64 x0, .int .i64 q, .int .i64 0, .int .i64 r1] 65) := ⟨_, rfl⟩
      have HY2 : Hid (Blk e2 wr.heap.size 65 #[.int .i64 x0, .int .i64 q, .int .i64 0, .int .i64 r1]) := Lib.hid (he2 ▸ Blk.new _ _ _)
      have HX2 : Hid (Blk e2 xb 49 #[.int .i64 x0, .slice x1 x2 x3, .slice x4 x5 x6]) := Lib.hid (he2 ▸ HX.out.alloc _)
      have HL2 : Hid (Below w.heap.size w e2) := Lib.hid (he2 ▸ HL.out.alloc hzr _)
      have HO2 : Hid (e2.ownsRow w.heap.size 65 4 (.slice D L dc) L (rowK s L)) := Lib.hid (he2 ▸ HO.out.alloc _)
      have HOL := Lib.hid HO.out.lt
      have hy2 := HY2.out.lt
      have hxw := HX.out.lt
      rw [← he2]
      clear he2 y0 HX HL HO
      have y0 : e2.cell? ⟨wr.heap.size, 0, none⟩ = some (.int .i64 x0) := HY2.out.cell 0
      have y1 : e2.cell? ⟨wr.heap.size, 1, none⟩ = some (.int .i64 q) := HY2.out.cell 1
      have y3 : e2.cell? ⟨wr.heap.size, 3, none⟩ = some (.int .i64 r1) := HY2.out.cell 3
      have y3' : e2.cell? ⟨wr.heap.size, 2 + 1, none⟩ = some (.int .i64 r1) := HY2.out.cell 3
      by_cases hLd : ¬ L < dn
      · have hLd' : ¬ (L : Int) < (dn : Int) := by omega
        have hd0 := HDP.out
        rw [if_neg hLd] at hd0
        subst hd0
        have y2 : e2.cell? ⟨wr.heap.size, 2, none⟩ = some (.int .i64 0) := HY2.out.cell 2
        have y2' : e2.cell? ⟨wr.heap.size, 1 + 1, none⟩ = some (.int .i64 0) := HY2.out.cell 2
        go_wp2_with (at_builtin; refine wpList_append_own_at _ rfl _ _ 66 rfl w.heap.size 65 i0 (.agg #[.int .i64 0, .int .i64 0, .int .i64 0, .int .i64 0]) 4 32 Tryz.underlying66 hif hzr0 hz1 hz2 rfl (by decide) (.slice D L dc) L (rowK s L) rfl (HO2.out.alloc _) ⟨_, 0, none⟩ 1 1 [.int .i64 x0, .int .i64 q, .int .i64 0, .int .i64 r1] rfl rfl (cell_four_new _ _ _ _ _ _) (one_four _ _ _ _) (by unfold maxLen; omega) (by omega) (by simp; omega) ?_; intro v6 wb hown2 hgrow2 _ hat2)
        have HO6 : Hid (wb.ownsRow w.heap.size 65 4 v6 (L + 1) (rowK s (L + 1))) := Lib.hid (by rw [← HPU.out]; exact hown2)
        have HD6 : Hid (Below w.heap.size w wb) := Lib.hid ((HL2.out.trans (Below.mono (below_alloc _ _) HL2.out.size)).grown hgrow2 (by simp; omega) (fun j hj => (HO2.out.lt j hj).1))
        have HX6 : Hid (Blk wb xb 49 #[.int .i64 x0, .slice x1 x2 x3, .slice x4 x5 x6]) := Lib.hid (blk_of_grown (HX2.out.alloc _) hgrow2 (fun e => by have h9 := own_blk HO2.out e HX2.out; cases h9))
        clear hown2 hgrow2 hat2
        go_wp2_with fail
        go_roundw
        case rel => exact ⟨q + 1, L + 1, by omega, by go_num, Lib.hid (by rw [HLE.out]; omega), HO6, HX6, HD6⟩
        case measure => simp [intOf]; omega
      have hLd : L < dn := by omega
      have hLd' : (L : Int) < (dn : Int) := by omega
      have hd0 := HDP.out
      rw [if_pos hLd] at hd0
      have hdl := HDF.out L hLd
      obtain ⟨db, do_, hda, hdb, hdc⟩ := (HDR.out.below (HL2.out.mono hB)) (by omega)
      have q0 : e2.cell? ⟨db, do_ + L, none⟩ = some (.int .u16 dp) := by rw [hd0]; exact hdc L hLd
      have hw2 : IntKind.i64.wrap dp = dp := IntWalk.i64_in _ ⟨by omega, by omega⟩
      clear hdc hd0 HDP
      subst hda
      have y2 : e2.cell? ⟨wr.heap.size, 2, none⟩ = some (.int .i64 0) := HY2.out.cell 2
      have y2' : e2.cell? ⟨wr.heap.size, 1 + 1, none⟩ = some (.int .i64 0) := HY2.out.cell 2
      have f2 := HY2.out.frozen 2
      go_upto_region 12 with fail
      obtain ⟨e3, he3⟩ : ∃ zz, zz = e2.setCell ⟨wr.heap.size, 2, none⟩ (.int .i64 dp) := ⟨_, rfl⟩
      have HY3 : Hid (Blk e3 wr.heap.size 65 #[.int .i64 x0, .int .i64 q, .int .i64 dp, .int .i64 r1]) := Lib.hid (he3 ▸ HY2.out.set_ 2 _)
      have HX3 : Hid (Blk e3 xb 49 #[.int .i64 x0, .slice x1 x2 x3, .slice x4 x5 x6]) := Lib.hid (he3 ▸ HX2.out.far (show xb ≠ wr.heap.size by omega) _)
      have HL3 : Hid (Below w.heap.size w e3) := Lib.hid (he3 ▸ HL2.out.setCell (p := ⟨wr.heap.size, 2, none⟩) hzr _)
      have HO3 : Hid (e3.ownsRow w.heap.size 65 4 (.slice D L dc) L (rowK s L)) := Lib.hid (by
        rw [he3]
        refine HO2.out.kept (grown_set (grown_refl e2 (some wr.heap.size)) 2 (.int .i64 dp)) ?_
        cases hv : (Value.slice D L dc).ownBlock with
        | none => exact .inl rfl
        | some g => exact .inr fun e => absurd (HOL.out g hv).2 (by injection e with e; omega))
      rw [← he3]
      clear he3 y0 y1 y2 y2' y3 y3' q0 f2 HY2 HX2 HL2 HO2 hLd hLd' hdl
      have hz3 := HL3.out.size
      have y0 : e3.cell? ⟨wr.heap.size, 0, none⟩ = some (.int .i64 x0) := HY3.out.cell 0
      have y1 : e3.cell? ⟨wr.heap.size, 1, none⟩ = some (.int .i64 q) := HY3.out.cell 1
      have y2 : e3.cell? ⟨wr.heap.size, 2, none⟩ = some (.int .i64 dp) := HY3.out.cell 2
      have y2' : e3.cell? ⟨wr.heap.size, 1 + 1, none⟩ = some (.int .i64 dp) := HY3.out.cell 2
      have y3 : e3.cell? ⟨wr.heap.size, 3, none⟩ = some (.int .i64 r1) := HY3.out.cell 3
      have y3' : e3.cell? ⟨wr.heap.size, 2 + 1, none⟩ = some (.int .i64 r1) := HY3.out.cell 3
      go_wp2_with (at_builtin; refine wpList_append_own_at _ rfl _ _ 66 rfl w.heap.size 65 i0 (.agg #[.int .i64 0, .int .i64 0, .int .i64 0, .int .i64 0]) 4 32 Tryz.underlying66 hif hzr0 hz1 hz2 rfl (by decide) (.slice D L dc) L (rowK s L) rfl (HO3.out.alloc _) ⟨_, 0, none⟩ 1 1 [.int .i64 x0, .int .i64 q, .int .i64 dp, .int .i64 r1] rfl rfl (cell_four_new _ _ _ _ _ _) (one_four _ _ _ _) (by unfold maxLen; omega) (by omega) (by simp; omega) ?_; intro v6 wb hown2 hgrow2 _ hat2)
      have HO6 : Hid (wb.ownsRow w.heap.size 65 4 v6 (L + 1) (rowK s (L + 1))) := Lib.hid (by rw [← HPU.out]; exact hown2)
      have HD6 : Hid (Below w.heap.size w wb) := Lib.hid ((HL3.out.trans (Below.mono (below_alloc _ _) HL3.out.size)).grown hgrow2 (by simp; omega) (fun j hj => (HO3.out.lt j hj).1))
      have HX6 : Hid (Blk wb xb 49 #[.int .i64 x0, .slice x1 x2 x3, .slice x4 x5 x6]) := Lib.hid (blk_of_grown (HX3.out.alloc _) hgrow2 (fun e => by have h9 := own_blk HO3.out e HX3.out; cases h9))
      clear hown2 hgrow2 hat2
      go_wp2_with fail
      go_roundw
      case rel => exact ⟨q + 1, L + 1, by omega, by go_num, Lib.hid (by rw [HLE.out]; omega), HO6, HX6, HD6⟩
      case measure => simp [intOf]; omega
end Go.Proofs.YtonkjnkokikpgaaGreat
