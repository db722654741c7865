/- Contracts of calibrate.trials and of its iterator. -/
import Derived.Test.YtonkjnkokikpgaaGreatKeeps
import Derived.Test.YtonkjnkokikpgaaGreatStillIn
import Derived.Test.YtonkjnkokikpgaaGreatMseq
import Derived.Sort.CutIn
namespace Go.Proofs.YtonkjnkokikpgaaGreat
open Go.RowKit

attribute [local go_sem] Oper.semAt_some

/-- how far outside of a range a number is -/
def dst (r : Int × Int) (s : Int) : Int := max (max 0 (r.1 - s)) (s - r.2)
/-- the trials of one forecast -/
def trI (p : PastF) (i : Nat) : Nat → List (Nat × Nat × Int)
  | 0 => []
  | k + 1 => trI p i k ++ [(i, k, dst (p.rf i k) (p.sv i k))]
/-- the trials of a body -/
def trP (p : PastF) (b : Int) : Nat → List (Nat × Nat × Int)
  | 0 => []
  | i + 1 => trP p b i ++ (if p.bd i = b then trI p i (p.rn i) else [])
/-- what the iterator hands out -/
def trv (x : Nat × Nat × Int) : Array Value := #[.agg #[.int .i64 x.1, .int .i64 x.2.1], .int .i64 x.2.2]
theorem trI_pre (p : PastF) (i k : Nat) : ∀ m, k < m → ∃ r, trI p i m = trI p i k ++ (i, k, dst (p.rf i k) (p.sv i k)) :: r
  | 0, h => absurd h (by omega)
  | m + 1, h => by
    by_cases e : k = m
    · subst e; exact ⟨[], rfl⟩
    · obtain ⟨r, hr⟩ := trI_pre p i k m (by omega)
      exact ⟨r ++ [(i, m, dst (p.rf i m) (p.sv i m))], by rw [trI, hr]; simp⟩
theorem trP_pre (p : PastF) (b : Int) (i : Nat) : ∀ m, i ≤ m → ∃ r, trP p b m = trP p b i ++ r
  | 0, h => ⟨[], by obtain rfl : i = 0 := by omega
                    simp⟩
  | m + 1, h => by
    by_cases e : i = m + 1
    · subst e; exact ⟨[], by simp⟩
    · obtain ⟨r, hr⟩ := trP_pre p b i m (by omega)
      exact ⟨r ++ (if p.bd m = b then trI p m (p.rn m) else []), by rw [trP, hr]; simp⟩
/-- each trial comes behind those ahead of it -/
theorem tr_next (p : PastF) (b : Int) {n i k : Nat} (hi : i < n) (hk : k < p.rn i) (hb : p.bd i = b) : ∃ r, trP p b n = (trP p b i ++ trI p i k) ++ (i, k, dst (p.rf i k) (p.sv i k)) :: r := by
  obtain ⟨r1, h1⟩ := trP_pre p b (i + 1) n (by omega)
  obtain ⟨r2, h2⟩ := trI_pre p i k (p.rn i) hk
  refine ⟨r2 ++ r1, ?_⟩
  rw [h1, trP, if_pos hb, h2]
  simp
theorem trI_len (p : PastF) (i : Nat) : ∀ k, (trI p i k).length = k
  | 0 => rfl
  | k + 1 => by rw [trI, List.length_append, trI_len p i k]; rfl
theorem trP_len (p : PastF) (b : Int) {n : Nat} (h : ∀ j, j < n → p.rn j ≤ 16) : ∀ m, m ≤ n → (trP p b m).length ≤ 16 * m
  | 0, _ => by simp [trP]
  | m + 1, hm => by
    have h1 := trP_len p b h m (by omega)
    have h2 := h m (by omega)
    rw [trP, List.length_append]
    split
    · rw [trI_len]; omega
    · simp; omega
/-- the greatest of three, at the values -/
theorem max3_at {P : Program} {ts : Array TypeId} {ty : TypeId} {i j l m : Int} (hm : m = max (max i j) l) : ∀ w : World, Sem.run P (Builtin.max_ ts ty #[.int .i64 i, .int .i64 j, .int .i64 l]) w = .ok (.int .i64 m) w := by
  intro w
  have e : (if (if i < j then j else i) < l then l else (if i < j then j else i)) = m := by split <;> split at * <;> omega
  simp [Builtin.max_, Builtin.max2, e]

/-- what a round must leave alone: what lay below n₀, the copies of forecasts, the slice of forecasts and the body -/
def KpT (n₀ bb : Nat) (W W' : World) : Prop := Below n₀ W W' ∧ ∀ k t cs, (t = 49 ∨ t = 23 ∨ k = bb) → Blk W k t cs → Blk W' k t cs
theorem KpT.refl {n₀ bb : Nat} (W : World) : KpT n₀ bb W W := ⟨Below.refl _ _, fun _ _ _ _ h => h⟩
theorem KpT.trans {n₀ bb : Nat} {A B C : World} (h : KpT n₀ bb A B) (k : KpT n₀ bb B C) : KpT n₀ bb A C := ⟨h.1.trans k.1, fun j t cs h1 h2 => k.2 j t cs h1 (h.2 j t cs h1 h2)⟩

set_option maxRecDepth 100000 in
set_option maxHeartbeats 8000000 in
theorem trials_in (m l tb bb n₀ B n c : Nat) (A : Option Addr) (p : PastF) (b : Int) (hg : PGood n p) (hBn : B ≤ n₀) (J : List (Nat × Nat × Int) → World → Prop)
    (W : World) (hn₀ : n₀ ≤ W.heap.size) (hJ : ∀ s A B, J s A → Below A.heap.size A B → J s B)
    (hY : ∀ pre x W1, J pre W1 → (∃ r, trP p b n = pre ++ x :: r) → YieldAt Fence.wide (m - 1) Tryz.prog l (trv x) W1 fun e W' => e = .returned (.bool true) ∧ J (pre ++ [x]) W' ∧ KpT n₀ bb W1 W')
    (ht : Blk W tb 23 #[.slice A n c]) (hb : Blk W bb 3 #[.int .i64 b]) (hr : PastRd W B A n p) (h0 : J [] W) :
    CallsIn Fence.wide m Tryz.prog 68 #[.func (.yield l) #[] #[], .pointer (some ⟨tb, 0, none⟩), .pointer (some ⟨bb, 0, none⟩)] W fun e W' => (∃ v, e = .returned v) ∧ ∃ ys, ys = trP p b n ∧ J ys W' := by
  refine callsIn_of_wp Tryz.func68 rfl trivial ?_ rfl
  simp only [Tryz.ntmps68, List.size_toArray, List.length_cons, List.length_nil, Nat.reduceAdd, Nat.reduceSub, Array.replicate_succ, Array.replicate_zero, List.push_toArray, List.append_toArray, List.nil_append, List.cons_append]
  have HT := Lib.hid ht
  have HB := Lib.hid hb
  have HR := Lib.hid hr
  have HJ := Lib.hid hJ
  have HG := Lib.hid hg
  have h256 : n ≤ 256 := hg.1
  have c0 : W.cell? ⟨tb, 0, none⟩ = some (.slice A n c) := ht.cell 0
  clear ht hb hr hJ hg
  have HZ : Hid (W.heap.size ≤ W.heap.size) := Lib.hid (Nat.le_refl _)
  gi_wp2
  clear c0
  gi_loopw [10] (fun q wr => ∃ i : Nat, i ≤ n ∧ q = .int .i64 i ∧ Hid (Blk wr tb 23 #[.slice A n c]) ∧ Hid (Blk wr bb 3 #[.int .i64 b]) ∧ Hid (PastRd wr B A n p) ∧ Hid (J (trP p b i) wr) ∧ Hid (W.heap.size ≤ wr.heap.size)) (fun q _ => n - (intOf q).toNat)
  case atStart => exact ⟨0, Nat.zero_le _, rfl, HT, HB, HR, Lib.hid h0, HZ⟩
  case round =>
    clear HT HB HR h0
    obtain ⟨i, hi, rfl, HT, HB, HR, HJ1, HZ1⟩ := hrel
    by_cases hlt : ¬ i < n
    · have hlt' : ¬ (i : Int) < n := by omega
      have hin : i = n := by omega
      have HJ2 : Hid (J (trP p b n) wr) := Lib.hid (hin ▸ HJ1.out)
      clear hin
      gi_wp2
      go_end0
      exact ⟨⟨_, rfl⟩, HJ2.out⟩
    have hlt : i < n := by omega
    have hlt' : (i : Int) < n := by omega
    obtain ⟨⟨hbd1, hbd2⟩, ⟨hrn1, hrn2⟩, hsn, hrf, hsv⟩ := HG.out.2 i hlt
    have HRF := Lib.hid hrf
    have HSV := Lib.hid hsv
    have HSN := Lib.hid hsn
    have hsn1 : p.sn i ≤ 16 := by omega
    clear hrf hsv hsn
    have hcc := HR.out.1
    unfold PastF.cells at hcc
    obtain ⟨ab, o, rfl, _, c0, c1, c2⟩ := pcc_at hcc hlt
    clear hcc
    gi_upto_region 3 with fail
    obtain ⟨e1, he1⟩ : ∃ zz, zz = wr.alloc (.cells #[.int .i64 (p.bd i), .slice (p.rA i) (p.rn i) (p.rc i), .slice (p.sA i) (p.sn i) (p.sc i)] 49) := ⟨_, rfl⟩
    have HX1 : Hid (Blk e1 wr.heap.size 49 #[.int .i64 (p.bd i), .slice (p.rA i) (p.rn i) (p.rc i), .slice (p.sA i) (p.sn i) (p.sc i)]) := Lib.hid (he1 ▸ Blk.new _ _ _)
    have HE1 : Below wr.heap.size wr e1 := he1 ▸ below_alloc _ _
    have HT1 := Lib.hid (HT.out.below HE1 HT.out.lt)
    have HB1 := Lib.hid (HB.out.below HE1 HB.out.lt)
    have HR1 := Lib.hid (HR.out.below (HE1.mono (by have := HZ1.out; omega)))
    have HJ2 := Lib.hid (HJ.out _ _ _ HJ1.out HE1)
    have HZ2 : Hid (W.heap.size ≤ e1.heap.size) := Lib.hid (Nat.le_trans HZ1.out HE1.size)
    rw [← he1]
    clear he1 HE1 HT HB HR HJ1 c0 c1 c2
    generalize wr.heap.size = xb at *
    clear HZ1
    clear wr
    have x0 : e1.cell? ⟨xb, 0, none⟩ = some (.int .i64 (p.bd i)) := HX1.out.cell 0
    have x1 : e1.cell? ⟨xb, 1, none⟩ = some (.slice (p.rA i) (p.rn i) (p.rc i)) := HX1.out.cell 1
    have b0 : e1.cell? ⟨bb, 0, none⟩ = some (.int .i64 b) := HB1.out.cell 0
    by_cases hbb : ¬ p.bd i = b
    · have hbd : (p.bd i != b) = true := by simpa using hbb
      have HJ3 : Hid (J (trP p b (i + 1)) e1) := Lib.hid (by rw [trP, if_neg hbb, List.append_nil]; exact HJ2.out)
      clear hbb
      gi_wp2
      go_roundw
      case rel => exact ⟨i + 1, by omega, by go_num, HT1, HB1, HR1, HJ3, HZ2⟩
      case measure => simp [intOf]; omega
    have hbb : p.bd i = b := by omega
    have HBI := Lib.hid hbb
    have hbd : (p.bd i != b) = false := by simpa using hbb
    clear hbb
    gi_wp2
    clear x0 x1 b0
    gi_loopw [22] (fun q wr => ∃ k : Nat, k ≤ p.rn i ∧ q = .int .i64 k ∧ Hid (Blk wr xb 49 #[.int .i64 (p.bd i), .slice (p.rA i) (p.rn i) (p.rc i), .slice (p.sA i) (p.sn i) (p.sc i)]) ∧ Hid (Blk wr tb 23 #[.slice (some ⟨ab, o, none⟩) n c]) ∧ Hid (Blk wr bb 3 #[.int .i64 b]) ∧ Hid (PastRd wr B (some ⟨ab, o, none⟩) n p) ∧ Hid (J (trP p b i ++ trI p i k) wr) ∧ Hid (W.heap.size ≤ wr.heap.size)) (fun q _ => p.rn i - (intOf q).toNat)
    case atStart => exact ⟨0, Nat.zero_le _, rfl, HX1, HT1, HB1, HR1, by rw [trI, List.append_nil]; exact HJ2, HZ2⟩
    case round =>
      clear HX1 HT1 HB1 HR1 HJ2 HZ2
      clear e1
      obtain ⟨k, hk, rfl, HX1, HT1, HB1, HR1, HJ2, HZ2⟩ := hrel
      by_cases hlk : ¬ k < p.rn i
      · have hlk' : ¬ (k : Int) < (p.rn i : Int) := by omega
        have hkr : k = p.rn i := by omega
        have HJ3 : Hid (J (trP p b (i + 1)) wr) := Lib.hid (by rw [trP, if_pos HBI.out, ← hkr]; exact HJ2.out)
        clear hkr
        gi_wp2
        go_roundw
        case rel => exact ⟨i + 1, by omega, by go_num, HT1, HB1, HR1, HJ3, HZ2⟩
        case measure => simp [intOf]; omega
      have hlk : k < p.rn i := by omega
      have hlk' : (k : Int) < (p.rn i : Int) := by omega
      have hlk3 : k < p.sn i := by have := HSN.out; omega
      have hlk'' : (k : Int) < (p.sn i : Int) := by omega
      obtain ⟨q1, q2, q3⟩ := HRF.out k hlk
      obtain ⟨q4, q5⟩ := HSV.out k hlk3
      obtain ⟨⟨hr1, _⟩, hs1, _⟩ := HR1.out.2 i hlt
      obtain ⟨rb, ro, hRA, hrbB, r0, r1⟩ := rng_at hr1 hlk
      obtain ⟨sb, so, hSA, hsbB, hsc⟩ := hs1 (by omega)
      have s0 : wr.cell? ⟨sb, so + k, none⟩ = some (.int .i64 (p.sv i k)) := hsc k hlk3
      clear hr1 hs1 hsc
      obtain ⟨d, hd⟩ : ∃ d, d = dst (p.rf i k) (p.sv i k) := ⟨_, rfl⟩
      have HYK : Hid (∀ W1, J (trP p b i ++ trI p i k) W1 → YieldAt Fence.wide (m - 1) Tryz.prog l #[.agg #[.int .i64 i, .int .i64 k], .int .i64 d] W1 fun e W' => e = .returned (.bool true) ∧ J (trP p b i ++ trI p i (k + 1)) W' ∧ KpT n₀ bb W1 W') := Lib.hid fun W1 h => by
        have h1 := hY _ (i, k, dst (p.rf i k) (p.sv i k)) W1 h (tr_next p b hlt hlk HBI.out)
        rw [trI, ← List.append_assoc, hd]
        exact h1
      have hmx := max3_at (P := Tryz.prog) (ts := #[3, 3, 3]) (ty := 3) (i := 0) (j := (p.rf i k).1 - p.sv i k) (l := p.sv i k - (p.rf i k).2) (m := d) hd
      have hw1 : IntKind.i64.wrap ((p.rf i k).1 - p.sv i k) = (p.rf i k).1 - p.sv i k := IntWalk.i64_in _ ⟨by omega, by omega⟩
      have hw2 : IntKind.i64.wrap (p.sv i k - (p.rf i k).2) = p.sv i k - (p.rf i k).2 := IntWalk.i64_in _ ⟨by omega, by omega⟩
      clear hd
      have HXR := Lib.hid hRA
      have HXS := Lib.hid hSA
      generalize p.rA i = yA at *
      generalize p.sA i = yS at *
      subst hRA hSA
      gi_upto_region 7 with fail
      obtain ⟨e2, he2⟩ : ∃ zz, zz = wr.alloc (.cells #[.int .i64 (p.rf i k).1, .int .i64 (p.rf i k).2] 53) := ⟨_, rfl⟩
      have HY2 : Hid (Blk e2 wr.heap.size 53 #[.int .i64 (p.rf i k).1, .int .i64 (p.rf i k).2]) := Lib.hid (he2 ▸ Blk.new _ _ _)
      have HX2 : Hid (Blk e2 xb 49 #[.int .i64 (p.bd i), .slice (some ⟨rb, ro, none⟩) (p.rn i) (p.rc i), .slice (some ⟨sb, so, none⟩) (p.sn i) (p.sc i)]) := Lib.hid (he2 ▸ HX1.out.alloc _)
      have HE2 : Below wr.heap.size wr e2 := he2 ▸ below_alloc _ _
      have HT2 := Lib.hid (HT1.out.below HE2 HT1.out.lt)
      have HB2 := Lib.hid (HB1.out.below HE2 HB1.out.lt)
      have HR2 := Lib.hid (HR1.out.below (HE2.mono (by have := HZ2.out; omega)))
      have HJ3 := Lib.hid (HJ.out _ _ _ HJ2.out HE2)
      have HZ3 : Hid (W.heap.size ≤ e2.heap.size) := Lib.hid (Nat.le_trans HZ2.out HE2.size)
      have s1 : e2.cell? ⟨sb, so + k, none⟩ = some (.int .i64 (p.sv i k)) := he2 ▸ (World.cell?_alloc_lt wr _ ⟨sb, so + k, none⟩ (World.block_lt_of_cell? wr _ s0)).trans s0
      rw [← he2]
      clear he2 HE2 HX1 HT1 HB1 HR1 HJ2 HZ2 r0 r1 s0
      generalize wr.heap.size = yb at *
      clear wr
      have y0 : e2.cell? ⟨yb, 0, none⟩ = some (.int .i64 (p.rf i k).1) := HY2.out.cell 0
      have y1 : e2.cell? ⟨yb, 1, none⟩ = some (.int .i64 (p.rf i k).2) := HY2.out.cell 1
      have x2 : e2.cell? ⟨xb, 2, none⟩ = some (.slice (some ⟨sb, so, none⟩) (p.sn i) (p.sc i)) := HX2.out.cell 2
      have x2' : e2.cell? ⟨xb, 1 + 1, none⟩ = some (.slice (some ⟨sb, so, none⟩) (p.sn i) (p.sc i)) := HX2.out.cell 2
      refine wpIn_region_still_tail 21 (by kernel_rfl) (by kernel_rfl) ?_
      simp only [List.take_succ_cons, List.take_zero, List.drop_succ_cons, List.drop_zero]
      repeat still_step
      try refine wpStill_nil ?_
      obtain ⟨fn, tmps, assign, body, hy, hR⟩ := HYK.out e2.drew (HJ.out _ _ _ HJ3.out (Below.refl _ _).drew)
      change wpListIn _ _ _ _ _ _ _ e2.drew
      gi_wp2
      refine ⟨fun h => (by cases h), hR.mono ?_⟩
      rintro e w6 ⟨rfl, hj6, hk6⟩
      have HJ6 := Lib.hid hj6
      have hdr : Below e2.heap.size e2 e2.drew := (Below.refl _ _).drew
      have HX6 : Hid (Blk w6 xb 49 #[.int .i64 (p.bd i), .slice (some ⟨rb, ro, none⟩) (p.rn i) (p.rc i), .slice (some ⟨sb, so, none⟩) (p.sn i) (p.sc i)]) := Lib.hid (hk6.2 _ _ _ (.inl rfl) (HX2.out.below hdr HX2.out.lt))
      have HT6 := Lib.hid (hk6.2 _ _ _ (.inr (.inl rfl)) (HT2.out.below hdr HT2.out.lt))
      have HB6 := Lib.hid (hk6.2 _ _ _ (.inr (.inr rfl)) (HB2.out.below hdr HB2.out.lt))
      have HR6 := Lib.hid ((HR2.out.below (hdr.mono (by have := HZ3.out; omega))).below (hk6.1.mono hBn))
      have HZ6 : Hid (W.heap.size ≤ w6.heap.size) := Lib.hid (Nat.le_trans HZ3.out hk6.1.size)
      clear hj6 hk6 hR hy hdr HX2 HT2 HB2 HR2 HJ3 HZ3 HY2 y0 y1 x2 x2' s1
      clear e2
      gi_wp2
      go_roundw
      case rel => exact ⟨k + 1, by omega, by go_num, HX6, HT6, HB6, HR6, HJ6, HZ6⟩
      case measure => simp [intOf]; omega

/-- what the iterator hands out -/
theorem trials_seq (m tb bb n₀ B n c : Nat) (A : Option Addr) (p : PastF) (b : Int) (hg : PGood n p) (hBn : B ≤ n₀) (w : World) (hn₀ : n₀ ≤ w.heap.size)
    (ht : Blk w tb 23 #[.slice A n c]) (hb : Blk w bb 3 #[.int .i64 b]) (hr : PastRd w B A n p) :
    SeqM Fence.wide m Tryz.prog 68 #[.pointer (some ⟨tb, 0, none⟩), .pointer (some ⟨bb, 0, none⟩)] trv (KpT n₀ bb) (fun ys => ys = trP p b n) (fun pre x => ∃ r, trP p b n = pre ++ x :: r) w := fun l J W hW hJ hY h0 =>
  trials_in m l tb bb n₀ B n c A p b hg hBn J W (by have := hW.size; omega) hJ hY (ht.below hW ht.lt) (hb.below hW hb.lt) (hr.below (hW.mono (by omega))) h0

set_option maxRecDepth 100000 in
theorem trials_45 (A : Option Addr) (n c : Nat) (b : Int) (w : World) :
    Calls Tryz.prog 45 #[.slice A n c, .int .i64 b] w fun e w' => e = .returned (.func (.func 68) #[] #[.pointer (some ⟨w.heap.size, 0, none⟩), .pointer (some ⟨w.heap.size + 1, 0, none⟩)]) ∧
      Blk w' w.heap.size 23 #[.slice A n c] ∧ Blk w' (w.heap.size + 1) 3 #[.int .i64 b] ∧ Below w.heap.size w w' := by
  go_enter Tryz.func45, Tryz.ntmps45
  go_wp2_with fail
  go_ret
  refine ⟨rfl, (Blk.new _ _ _).alloc _, ?_, ?_⟩
  · have h := Blk.new (w.alloc (.cells #[.slice A n c] 23)) 3 #[.int .i64 b]
    rwa [World.size_alloc] at h
  · exact (below_alloc _ _).alloc (by simp) _
end Go.Proofs.YtonkjnkokikpgaaGreat
