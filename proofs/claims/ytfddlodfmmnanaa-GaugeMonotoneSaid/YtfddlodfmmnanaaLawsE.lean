/- Contract of the law GaugeMonotone: it returns true for every input. -/
import Derived.Test.YtfddlodfmmnanaaLawsD
namespace Go.Proofs.Ytfddlodfmmnanaa
open Go.RowKit

theorem point_flow {S F : Nat → Int} {n k : Nat} (hk : k < n) (hrow : rowsB S F n = true) : fLo S F n (S k) = F k ∧ fHi S F n (S k) = F k := by
  have hl := idx_le S (S k) n
  have h1 : idx S (S k) n = k + 1 := by
    have h2 := decide_eq_decide.1 (idx_test hrow (S k) hk)
    by_cases h3 : k + 1 < n
    · have h4 := decide_eq_decide.1 (idx_test hrow (S k) h3)
      have h5 := rows_rise hrow (k + 1) k (by omega) h3
      have h6 := h4.1 h5
      have h7 : ¬ idx S (S k) n ≤ k := fun h => by have := h2.2 h; omega
      omega
    · have h7 : ¬ idx S (S k) n ≤ k := fun h => by have := h2.2 h; omega
      omega
  by_cases h3 : k + 1 = n
  · simp [fLo, fHi, h1, h3, show n ≠ 0 by omega, show n - 1 = k by omega]
  · have hd := fD_pos hrow (k := k + 1) (by omega) (by omega)
    unfold fD at hd
    simp only [Nat.add_sub_cancel] at hd
    have e : (S (k + 1) - S k - 1) / (S (k + 1) - S k) = 0 := Int.ediv_eq_zero_of_lt (by omega) (by omega)
    simp [fLo, fHi, h1, h3, Int.sub_self, e]

set_option maxRecDepth 100000 in
set_option maxHeartbeats 4000000 in
theorem monotone_7 (no rc cl dr si : Int) (A : Option Addr) (n c B : Nat) (S F : Nat → Int) (x y z : Int) (w : World) (hm : n ≤ 9223372036854775807) (hB : B ≤ w.heap.size) (hr : RdP w B A n S F) (hz : 0 ≤ z ∧ z ≤ 255) :
    Calls Try.prog 7 #[gv no rc cl dr si A n c, .int .i64 x, .int .i64 y, .int .u8 z] w fun e w' => e = .returned (.bool true) ∧ Below w.heap.size w w' := by
  have HR := Lib.hid hr
  clear hr
  obtain ⟨E, hE⟩ : ∃ E, E = flE (chk no rc cl dr si n S F) (min x y) := ⟨_, rfl⟩
  obtain ⟨a, ha⟩ : ∃ a, a = flR E (fLo S F n (min x y)) := ⟨_, rfl⟩
  obtain ⟨b, hb⟩ : ∃ b, b = flR E (fHi S F n (min x y)) := ⟨_, rfl⟩
  obtain ⟨E', hE'⟩ : ∃ E', E' = flE (chk no rc cl dr si n S F) (max x y) := ⟨_, rfl⟩
  obtain ⟨p, hp⟩ : ∃ p, p = flR E' (fLo S F n (max x y)) := ⟨_, rfl⟩
  obtain ⟨q, hq⟩ : ∃ q, q = flR E' (fHi S F n (max x y)) := ⟨_, rfl⟩
  have HX : Hid (∀ W, RdP W B A n S F → B ≤ W.heap.size → Calls Try.prog 11 #[gv no rc cl dr si A n c, .int .i64 (min x y)] W fun e w' => e = .returned (.tuple #[.agg #[.int .i64 a, .int .i64 b], .int .i64 E]) ∧ Below W.heap.size W w') :=
    Lib.hid fun W h1 h2 => by rw [ha, hb, hE]; exact Flow_11 no rc cl dr si A n c B S F (min x y) W hm h2 (fun _ => h1)
  have HY : Hid (∀ W, RdP W B A n S F → B ≤ W.heap.size → Calls Try.prog 11 #[gv no rc cl dr si A n c, .int .i64 (max x y)] W fun e w' => e = .returned (.tuple #[.agg #[.int .i64 p, .int .i64 q], .int .i64 E']) ∧ Below W.heap.size W w') :=
    Lib.hid fun W h1 h2 => by rw [hp, hq, hE']; exact Flow_11 no rc cl dr si A n c B S F (max x y) W hm h2 (fun _ => h1)
  obtain ⟨r, hr⟩ : ∃ r, r = chk no rc cl dr si n S F := ⟨_, rfl⟩
  have HC : Hid (∀ W, RdP W B A n S F → B ≤ W.heap.size → Calls Try.prog 13 #[gv no rc cl dr si A n c] W fun e w' => e = .returned (.int .i64 r) ∧ Below W.heap.size W w') :=
    Lib.hid fun W h1 h2 => by rw [hr]; exact check_13 no rc cl dr si A n c B S F W hm h2 (fun _ => h1)
  have HN : Hid (r ≠ 0 → E ≠ 0) := Lib.hid fun h => by rw [hE, ← hr, flE, if_neg h]; exact h
  have HN2 : Hid (r ≠ 0 → E' ≠ 0) := Lib.hid fun h => by rw [hE', ← hr, flE, if_neg h]; exact h
  have HZ : Hid (r = 0 → n ≤ 64 ∧ n ≠ 0 ∧ rowsB S F n = true) := Lib.hid fun h => ⟨(chk_zero (hr.symm.trans h)).1, (chk_zero (hr.symm.trans h)).2.1, (chk_zero (hr.symm.trans h)).2.2.2⟩
  have HV : Hid (r = 0 → E = 0 → E' = 0 → a ≤ p ∧ b ≤ q ∧ a ≤ b ∧ b - a ≤ 1 ∧ 0 ≤ a ∧ b ≤ 1073741824) := Lib.hid fun h0 h1 h2 => by
    obtain ⟨_, z5, _, z6⟩ := chk_zero (hr.symm.trans h0)
    have h3 := flow_mono z6 z5 (show min x y ≤ max x y by omega)
    have h4 := flow_in z6 z5 (min x y)
    rw [ha, hb, hp, hq, h1, h2]
    simp only [flR, if_true]
    omega
  have HPT : Hid (∀ k, k < n → rowsB S F n = true → n ≠ 0 → (∀ W, r = 0 → RdP W B A n S F → B ≤ W.heap.size → Calls Try.prog 11 #[gv no rc cl dr si A n c, .int .i64 (S k)] W fun e w' => e = .returned (.tuple #[.agg #[.int .i64 (F k), .int .i64 (F k)], .int .i64 0]) ∧ Below W.heap.size W w') ∧ True) :=
    Lib.hid fun k hk h1 h2 => ⟨fun W h0 h3 h4 => (Flow_11 no rc cl dr si A n c B S F (S k) W hm h4 (fun _ => h3)).mono fun e w' h => by
      have h5 := point_flow hk h1
      have h6 := (rows_in h1 hk).1
      have h7 : flE (chk no rc cl dr si n S F) (S k) = 0 := by rw [← hr, h0, flE, if_pos rfl, if_pos (inB_iff.2 h6)]
      rw [h5.1, h5.2, h7] at h
      exact h, trivial⟩
  clear hE ha hb hE' hp hq hr
  unfold gv at HX HY HC HPT ⊢
  go_enter Try.func7, Try.ntmps7
  go_wp2_with fail
  obtain ⟨u0, hu0⟩ : ∃ u0, u0 = w.alloc (.cells #[.int .i64 no, .int .i64 rc, .int .i64 cl, .int .i64 dr, .int .i64 si, .slice A n c] 24) := ⟨_, rfl⟩
  have G0 : Hid (Blk u0 w.heap.size 24 #[.int .i64 no, .int .i64 rc, .int .i64 cl, .int .i64 dr, .int .i64 si, .slice A n c]) := Lib.hid (hu0 ▸ Blk.new _ _ _)
  have B0 : Hid (Below w.heap.size w u0) := Lib.hid (hu0 ▸ below_alloc _ _)
  rw [← hu0]
  clear hu0
  have hs0 := G0.out.lt
  have hz0 := B0.out.size
  refine (sane_10 _).mono ?_
  rintro e v0 ⟨rfl, hb⟩
  have B1 := Lib.hid (B0.out.trans (hb.mono (by omega)))
  have G1 := Lib.hid (G0.out.below hb G0.out.lt)
  have hs1 := G1.out.lt
  have hz1 := B1.out.size
  clear hb B0 G0 hs0 hz0
  have cg0 : v0.cell? ⟨w.heap.size, 0, none⟩ = some (.int .i64 no) := G1.out.cell 0
  have cg1 : v0.cell? ⟨w.heap.size, 1, none⟩ = some (.int .i64 rc) := G1.out.cell 1
  have cg2 : v0.cell? ⟨w.heap.size, 2, none⟩ = some (.int .i64 cl) := G1.out.cell 2
  have cg3 : v0.cell? ⟨w.heap.size, 3, none⟩ = some (.int .i64 dr) := G1.out.cell 3
  have cg4 : v0.cell? ⟨w.heap.size, 4, none⟩ = some (.int .i64 si) := G1.out.cell 4
  have cg5 : v0.cell? ⟨w.heap.size, 5, none⟩ = some (.slice A n c) := G1.out.cell 5
  go_wp2_with fail
  refine (HX.out _ (HR.out.below (B1.out.mono hB)) (by omega)).mono ?_
  rintro e v1 ⟨rfl, hb⟩
  clear cg0 cg1 cg2 cg3 cg4 cg5
  have B2 := Lib.hid (B1.out.trans (hb.mono (by omega)))
  have G2 := Lib.hid (G1.out.below hb G1.out.lt)
  have hs2 := G2.out.lt
  have hz2 := B2.out.size
  clear hb B1 G1 hs1 hz1
  go_upto_region 4 with fail
  obtain ⟨bv1, hbx⟩ : ∃ zz, zz = v1.alloc (.cells #[.int .i64 a, .int .i64 b] 27) := ⟨_, rfl⟩
  rw [← hbx]
  have hb : Below v1.heap.size v1 bv1 := hbx ▸ below_alloc _ _
  have NX := Lib.hid (show Blk bv1 v1.heap.size 27 #[.int .i64 a, .int .i64 b] from hbx ▸ Blk.new _ _ _)
  clear hbx
  have B3 := Lib.hid (B2.out.trans (hb.mono (by omega)))
  have G3 := Lib.hid (G2.out.below hb G2.out.lt)
  have hs3 := G3.out.lt
  have hz3 := B3.out.size
  clear hb B2 G2 hs2 hz2
  have X3 := NX
  clear NX
  have cg0 : bv1.cell? ⟨w.heap.size, 0, none⟩ = some (.int .i64 no) := G3.out.cell 0
  have cg1 : bv1.cell? ⟨w.heap.size, 1, none⟩ = some (.int .i64 rc) := G3.out.cell 1
  have cg2 : bv1.cell? ⟨w.heap.size, 2, none⟩ = some (.int .i64 cl) := G3.out.cell 2
  have cg3 : bv1.cell? ⟨w.heap.size, 3, none⟩ = some (.int .i64 dr) := G3.out.cell 3
  have cg4 : bv1.cell? ⟨w.heap.size, 4, none⟩ = some (.int .i64 si) := G3.out.cell 4
  have cg5 : bv1.cell? ⟨w.heap.size, 5, none⟩ = some (.slice A n c) := G3.out.cell 5
  go_wp2_with fail
  refine (HY.out _ (HR.out.below (B3.out.mono hB)) (by omega)).mono ?_
  rintro e v2 ⟨rfl, hb⟩
  clear cg0 cg1 cg2 cg3 cg4 cg5
  have B4 := Lib.hid (B3.out.trans (hb.mono (by omega)))
  have G4 := Lib.hid (G3.out.below hb G3.out.lt)
  have X4 := Lib.hid (X3.out.below hb X3.out.lt)
  have hs4 := G4.out.lt
  have hz4 := B4.out.size
  clear hb B3 G3 hs3 hz3 X3
  go_upto_region 5 with fail
  obtain ⟨bv2, hbx⟩ : ∃ zz, zz = v2.alloc (.cells #[.int .i64 p, .int .i64 q] 27) := ⟨_, rfl⟩
  rw [← hbx]
  have hb : Below v2.heap.size v2 bv2 := hbx ▸ below_alloc _ _
  have NY := Lib.hid (show Blk bv2 v2.heap.size 27 #[.int .i64 p, .int .i64 q] from hbx ▸ Blk.new _ _ _)
  clear hbx
  have B5 := Lib.hid (B4.out.trans (hb.mono (by omega)))
  have G5 := Lib.hid (G4.out.below hb G4.out.lt)
  have X5 := Lib.hid (X4.out.below hb X4.out.lt)
  have hs5 := G5.out.lt
  have hz5 := B5.out.size
  clear hb B4 G4 hs4 hz4 X4
  have Y5 := NY
  clear NY
  have cg0 : bv2.cell? ⟨w.heap.size, 0, none⟩ = some (.int .i64 no) := G5.out.cell 0
  have cg1 : bv2.cell? ⟨w.heap.size, 1, none⟩ = some (.int .i64 rc) := G5.out.cell 1
  have cg2 : bv2.cell? ⟨w.heap.size, 2, none⟩ = some (.int .i64 cl) := G5.out.cell 2
  have cg3 : bv2.cell? ⟨w.heap.size, 3, none⟩ = some (.int .i64 dr) := G5.out.cell 3
  have cg4 : bv2.cell? ⟨w.heap.size, 4, none⟩ = some (.int .i64 si) := G5.out.cell 4
  have cg5 : bv2.cell? ⟨w.heap.size, 5, none⟩ = some (.slice A n c) := G5.out.cell 5
  go_wp2_with fail
  refine (HC.out _ (HR.out.below (B5.out.mono hB)) (by omega)).mono ?_
  rintro e v3 ⟨rfl, hb⟩
  clear cg0 cg1 cg2 cg3 cg4 cg5
  have B6 := Lib.hid (B5.out.trans (hb.mono (by omega)))
  have G6 := Lib.hid (G5.out.below hb G5.out.lt)
  have X6 := Lib.hid (X5.out.below hb X5.out.lt)
  have Y6 := Lib.hid (Y5.out.below hb Y5.out.lt)
  have hs6 := G6.out.lt
  have hz6 := B6.out.size
  clear hb B5 G5 hs5 hz5 X5 Y5
  by_cases hr0 : r ≠ 0
  · have h0 : (r != 0) = true := by simpa using hr0
    have h1 : (E != 0) = true := by simpa using HN.out hr0
    have h2 : (E' != 0) = true := by simpa using HN2.out hr0
    go_wp2_with fail
    go_ret
    exact ⟨rfl, B6.out⟩
  have hr0 := Decidable.not_not.1 hr0
  obtain ⟨z1, z2, z3⟩ := HZ.out hr0
  have HROW := Lib.hid z3
  have h0 : (r != 0) = false := by simpa using hr0
  clear HN HN2 HZ z3 HC
  have hn0 : ((n : Int) == 0) = false := by rw [beq_eq_false_iff_ne]; omega
  obtain ⟨k, hk⟩ : ∃ k : Nat, (k : Int) = z % n := ⟨(z % n).toNat, by have := Int.emod_nonneg z (show (n : Int) ≠ 0 by omega); omega⟩
  have hkn : k < n := by have := Int.emod_lt_of_pos z (show (0 : Int) < n by omega); omega
  have htm : z.tmod n = k := by rw [hk]; exact Int.tmod_eq_emod_of_nonneg hz.1
  have hkn' : (k : Int) < n := by omega
  have hn1 : ¬ (n : Int) = 0 := by omega
  obtain ⟨b0, off, rfl, hbB, _, _⟩ := (HR.out).at_ (k := k) hkn
  obtain ⟨q1, q2⟩ := (HR.out.below (B6.out.mono hB)).here (k := k) hkn
  have hbb : b0 < v3.heap.size := by have := B6.out.size; omega
  have hPT := HPT.out k hkn HROW.out z2
  have HPE := Lib.hid hPT.1
  have hse := (rows_in HROW.out hkn).1
  clear hk hPT
  have cg0 : v3.cell? ⟨w.heap.size, 0, none⟩ = some (.int .i64 no) := G6.out.cell 0
  have cg1 : v3.cell? ⟨w.heap.size, 1, none⟩ = some (.int .i64 rc) := G6.out.cell 1
  have cg2 : v3.cell? ⟨w.heap.size, 2, none⟩ = some (.int .i64 cl) := G6.out.cell 2
  have cg3 : v3.cell? ⟨w.heap.size, 3, none⟩ = some (.int .i64 dr) := G6.out.cell 3
  have cg4 : v3.cell? ⟨w.heap.size, 4, none⟩ = some (.int .i64 si) := G6.out.cell 4
  have cg5 : v3.cell? ⟨w.heap.size, 5, none⟩ = some (.slice (some ⟨b0, off, none⟩) n c) := G6.out.cell 5
  subst hr0
  have HPT := HPE
  obtain ⟨hz0, hz1⟩ := hz
  go_upto_region 9 with fail
  go_region
  have hb : Below v3.heap.size v3 (v3.alloc (.cells #[.int .i64 (S k), .int .i64 (F k)] 39)).drew := (below_alloc _ _).drew
  have NK := Lib.hid (show Blk (v3.alloc (.cells #[.int .i64 (S k), .int .i64 (F k)] 39)).drew v3.heap.size 39 #[.int .i64 (S k), .int .i64 (F k)] from (Blk.new _ _ _).drewN 1)
  generalize (v3.alloc (.cells #[.int .i64 (S k), .int .i64 (F k)] 39)).drew = v4 at hb NK ⊢
  clear cg0 cg1 cg2 cg3 cg4 cg5
  have B7 := Lib.hid (B6.out.trans (hb.mono (by omega)))
  have G7 := Lib.hid (G6.out.below hb G6.out.lt)
  have X7 := Lib.hid (X6.out.below hb X6.out.lt)
  have Y7 := Lib.hid (Y6.out.below hb Y6.out.lt)
  have hs7 := G7.out.lt
  have hz7 := B7.out.size
  clear hb B6 G6 hs6 hz6 X6 Y6
  have K7 := NK
  clear NK
  have ck0 : v4.cell? ⟨v3.heap.size, 0, none⟩ = some (.int .i64 (S k)) := K7.out.cell 0
  have ck1 : v4.cell? ⟨v3.heap.size, 1, none⟩ = some (.int .i64 (F k)) := K7.out.cell 1
  have cg0 : v4.cell? ⟨w.heap.size, 0, none⟩ = some (.int .i64 no) := G7.out.cell 0
  have cg1 : v4.cell? ⟨w.heap.size, 1, none⟩ = some (.int .i64 rc) := G7.out.cell 1
  have cg2 : v4.cell? ⟨w.heap.size, 2, none⟩ = some (.int .i64 cl) := G7.out.cell 2
  have cg3 : v4.cell? ⟨w.heap.size, 3, none⟩ = some (.int .i64 dr) := G7.out.cell 3
  have cg4 : v4.cell? ⟨w.heap.size, 4, none⟩ = some (.int .i64 si) := G7.out.cell 4
  have cg5 : v4.cell? ⟨w.heap.size, 5, none⟩ = some (.slice (some ⟨b0, off, none⟩) n c) := G7.out.cell 5
  go_wp2_with fail
  refine (HPT.out _ (by first | rfl | trivial) (HR.out.below (B7.out.mono hB)) (by omega)).mono ?_
  rintro e v5 ⟨rfl, hb⟩
  clear ck0 ck1
  clear cg0 cg1 cg2 cg3 cg4 cg5
  have B8 := Lib.hid (B7.out.trans (hb.mono (by omega)))
  have G8 := Lib.hid (G7.out.below hb G7.out.lt)
  have X8 := Lib.hid (X7.out.below hb X7.out.lt)
  have Y8 := Lib.hid (Y7.out.below hb Y7.out.lt)
  have K8 := Lib.hid (K7.out.below hb K7.out.lt)
  have hs8 := G8.out.lt
  have hz8 := B8.out.size
  clear hb B7 G7 hs7 hz7 X7 Y7 K7
  go_upto_region 11 with fail
  obtain ⟨v6, hbx⟩ : ∃ zz, zz = v5.alloc (.cells #[.int .i64 (F k), .int .i64 (F k)] 27) := ⟨_, rfl⟩
  rw [← hbx]
  have hb : Below v5.heap.size v5 v6 := hbx ▸ below_alloc _ _
  have NZ := Lib.hid (show Blk v6 v5.heap.size 27 #[.int .i64 (F k), .int .i64 (F k)] from hbx ▸ Blk.new _ _ _)
  clear hbx
  have B9 := Lib.hid (B8.out.trans (hb.mono (by omega)))
  have G9 := Lib.hid (G8.out.below hb G8.out.lt)
  have X9 := Lib.hid (X8.out.below hb X8.out.lt)
  have Y9 := Lib.hid (Y8.out.below hb Y8.out.lt)
  have K9 := Lib.hid (K8.out.below hb K8.out.lt)
  have hs9 := G9.out.lt
  have hz9 := B9.out.size
  clear hb B8 G8 hs8 hz8 X8 Y8 K8
  have ck0 : v6.cell? ⟨v3.heap.size, 0, none⟩ = some (.int .i64 (S k)) := K9.out.cell 0
  have ck1 : v6.cell? ⟨v3.heap.size, 1, none⟩ = some (.int .i64 (F k)) := K9.out.cell 1
  have Z9 := NZ
  clear NZ
  have cz0 : v6.cell? ⟨v5.heap.size, 0, none⟩ = some (.int .i64 (F k)) := Z9.out.cell 0
  have cz1 : v6.cell? ⟨v5.heap.size, 1, none⟩ = some (.int .i64 (F k)) := Z9.out.cell 1
  have cx0 : v6.cell? ⟨v1.heap.size, 0, none⟩ = some (.int .i64 a) := X9.out.cell 0
  have cx1 : v6.cell? ⟨v1.heap.size, 1, none⟩ = some (.int .i64 b) := X9.out.cell 1
  have cy0 : v6.cell? ⟨v2.heap.size, 0, none⟩ = some (.int .i64 p) := Y9.out.cell 0
  have cy1 : v6.cell? ⟨v2.heap.size, 1, none⟩ = some (.int .i64 q) := Y9.out.cell 1
  by_cases hE : E ≠ 0
  · have h1 : (E != 0) = true := by simpa using hE
    go_wp2_with fail
    go_ret
    exact ⟨rfl, B9.out⟩
  have hE := Decidable.not_not.1 hE
  by_cases hE2 : E' ≠ 0
  · have h1 : (E != 0) = false := by simpa using hE
    have h2 : (E' != 0) = true := by simpa using hE2
    go_wp2_with fail
    go_ret
    exact ⟨rfl, B9.out⟩
  have hE2 := Decidable.not_not.1 hE2
  obtain ⟨hv1, hv2, hv3, hv4, hv5, hv6⟩ := HV.out (by first | rfl | trivial) hE hE2
  clear HV
  subst hE
  subst hE2
  go_wp2_with fail
  go_ret
  exact ⟨rfl, B9.out⟩
end Go.Proofs.Ytfddlodfmmnanaa
