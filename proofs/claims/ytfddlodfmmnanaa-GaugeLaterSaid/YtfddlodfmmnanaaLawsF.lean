/- Contract of the law GaugeLater: it returns true for every input. -/
import Derived.Test.YtfddlodfmmnanaaLawsC
import Derived.BigRegion
namespace Go.Proofs.Ytfddlodfmmnanaa
open Go.RowKit

set_option maxRecDepth 100000 in
set_option maxHeartbeats 8000000 in
theorem later_9 (no rc cl dr si : Int) (A : Option Addr) (n c B : Nat) (S F : Nat → Int) (s h lt cs ds : Int) (w : World) (hm : n ≤ 9223372036854775807) (hB : B ≤ w.heap.size) (hr : RdP w B A n S F) (hlt : 0 ≤ lt ∧ lt ≤ 65535) (hcs : 0 ≤ cs ∧ cs ≤ 65535) (hds : 0 ≤ ds ∧ ds ≤ 65535) :
    Calls Try.prog 9 #[gv no rc cl dr si A n c, .int .i64 s, .int .i64 h, .int .u16 lt, .int .u16 cs, .int .u16 ds] w fun e w' => e = .returned (.bool true) ∧ Below w.heap.size w w' := by
  have HR := Lib.hid hr
  clear hr
  obtain ⟨E, hE⟩ : ∃ E, E = rdE (chk no rc cl dr si n S F) s h := ⟨_, rfl⟩
  obtain ⟨a, ha⟩ : ∃ a, a = flR E (fLo S F n (max 0 (s - errN cl dr si h))) := ⟨_, rfl⟩
  obtain ⟨b, hb⟩ : ∃ b, b = flR E (fHi S F n (min 1048576 (s + errN cl dr si h))) := ⟨_, rfl⟩
  have HX : Hid (∀ W, RdP W B A n S F → B ≤ W.heap.size → Calls Try.prog 15 #[gv no rc cl dr si A n c, .int .i64 s, .int .i64 h] W fun e w' => e = .returned (.tuple #[.agg #[.int .i64 a, .int .i64 b], .int .i64 E]) ∧ Below W.heap.size W w') :=
    Lib.hid fun W h1 h2 => by rw [ha, hb, hE]; exact Read_15 no rc cl dr si A n c B S F s h W hm h2 (fun _ => h1)
  have HZ : Hid (E = 0 → (0 ≤ cl ∧ cl ≤ 1000) ∧ (0 ≤ dr ∧ dr ≤ 1000) ∧ (0 ≤ h ∧ h ≤ 4096) ∧ 0 ≤ si ∧ si ≤ 4096) := Lib.hid fun h1 => by
    obtain ⟨z1, z2, z3⟩ := rdE_zero (hE.symm.trans h1)
    obtain ⟨_, _, z5, z6, z7⟩ := head_in (chk_zero z1).2.2.1
    exact ⟨z5, z6, z3, z7⟩
  have HV : Hid (E = 0 → ∃ b' a', Hid (∀ W, RdP W B A n S F → B ≤ W.heap.size → Calls Try.prog 15 #[gv no rc (max 0 (cl - cs)) (max 0 (dr - ds)) (max si (min h (si + lt))) A n c, .int .i64 s, .int .i64 h] W fun e w' => e = .returned (.tuple #[.agg #[.int .i64 a', .int .i64 b'], .int .i64 0]) ∧ Below W.heap.size W w') ∧ a ≤ a' ∧ b' ≤ b) := Lib.hid fun h0 => by
    obtain ⟨z1, z2, z3⟩ := rdE_zero (hE.symm.trans h0)
    obtain ⟨z4, z5, zh, z6⟩ := chk_zero z1
    obtain ⟨y1, y2, y3, y4, y5⟩ := head_in zh
    have zh' : headB no rc (max 0 (cl - cs)) (max 0 (dr - ds)) (max si (min h (si + lt))) n = true := by
      simp only [headB, Bool.and_eq_true, inB_iff, decide_eq_true_eq]
      omega
    have zc : chk no rc (max 0 (cl - cs)) (max 0 (dr - ds)) (max si (min h (si + lt))) n S F = 0 := chk_ok (by omega) zh' z6
    have ze : rdE (chk no rc (max 0 (cl - cs)) (max 0 (dr - ds)) (max si (min h (si + lt))) n S F) s h = 0 := by
      rw [zc, rdE, if_pos rfl, if_pos]
      simp only [Bool.and_eq_true, inB_iff]
      exact ⟨z2, z3⟩
    have zer : errN (max 0 (cl - cs)) (max 0 (dr - ds)) (max si (min h (si + lt))) h ≤ errN cl dr si h := by
      unfold errN
      have := Int.mul_le_mul (show max 0 (dr - ds) ≤ dr by omega) (show max 0 (h - max si (min h (si + lt))) / 24 ≤ max 0 (h - si) / 24 by omega) (by omega) y4.1
      omega
    refine ⟨_, _, Lib.hid fun W h1 h2 => (by
      have := Read_15 no rc (max 0 (cl - cs)) (max 0 (dr - ds)) (max si (min h (si + lt))) A n c B S F s h W hm h2 (fun _ => h1)
      rw [ze] at this
      exact this), ?_, ?_⟩
    · rw [ha, h0]; exact (flow_mono z6 z5 (by omega)).1
    · rw [hb, h0]; exact (flow_mono z6 z5 (by omega)).2
  clear hE ha hb
  unfold gv at HX HV ⊢
  go_enter Try.func9, Try.ntmps9
  go_wp2_with fail
  obtain ⟨u0, hu0⟩ : ∃ u0, u0 = w.alloc (.cells #[.int .i64 no, .int .i64 rc, .int .i64 cl, .int .i64 dr, .int .i64 si, .slice A n c] 24) := ⟨_, rfl⟩
  have G0 : Hid (Blk u0 w.heap.size 24 #[.int .i64 no, .int .i64 rc, .int .i64 cl, .int .i64 dr, .int .i64 si, .slice A n c]) := Lib.hid (hu0 ▸ Blk.new _ _ _)
  have B0 : Hid (Below w.heap.size w u0) := Lib.hid (hu0 ▸ below_alloc _ _)
  rw [← hu0]
  clear hu0
  have hs0 := G0.out.lt
  have hz0 := B0.out.size
  refine (sane_10 _).mono ?_
  rintro e v0 ⟨rfl, hb⟩
  have B1 := Lib.hid (B0.out.trans (hb.mono (by omega)))
  have G1 := Lib.hid (G0.out.below hb G0.out.lt)
  have hs1 := G1.out.lt
  have hz1 := B1.out.size
  clear hb B0 G0 hs0 hz0
  have cg0 : v0.cell? ⟨w.heap.size, 0, none⟩ = some (.int .i64 no) := G1.out.cell 0
  have cg1 : v0.cell? ⟨w.heap.size, 1, none⟩ = some (.int .i64 rc) := G1.out.cell 1
  have cg2 : v0.cell? ⟨w.heap.size, 2, none⟩ = some (.int .i64 cl) := G1.out.cell 2
  have cg3 : v0.cell? ⟨w.heap.size, 3, none⟩ = some (.int .i64 dr) := G1.out.cell 3
  have cg4 : v0.cell? ⟨w.heap.size, 4, none⟩ = some (.int .i64 si) := G1.out.cell 4
  have cg5 : v0.cell? ⟨w.heap.size, 5, none⟩ = some (.slice A n c) := G1.out.cell 5
  go_wp2_with fail
  refine (HX.out _ (HR.out.below (B1.out.mono hB)) (by omega)).mono ?_
  rintro e v1 ⟨rfl, hb⟩
  clear cg0 cg1 cg2 cg3 cg4 cg5
  have B2 := Lib.hid (B1.out.trans (hb.mono (by omega)))
  have G2 := Lib.hid (G1.out.below hb G1.out.lt)
  have hs2 := G2.out.lt
  have hz2 := B2.out.size
  clear hb B1 G1 hs1 hz1
  go_upto_region 4 with fail
  obtain ⟨bv1, hbx⟩ : ∃ zz, zz = v1.alloc (.cells #[.int .i64 a, .int .i64 b] 27) := ⟨_, rfl⟩
  rw [← hbx]
  have hb : Below v1.heap.size v1 bv1 := hbx ▸ below_alloc _ _
  have NX := Lib.hid (show Blk bv1 v1.heap.size 27 #[.int .i64 a, .int .i64 b] from hbx ▸ Blk.new _ _ _)
  clear hbx
  have B3 := Lib.hid (B2.out.trans (hb.mono (by omega)))
  have G3 := Lib.hid (G2.out.below hb G2.out.lt)
  have hs3 := G3.out.lt
  have hz3 := B3.out.size
  clear hb B2 G2 hs2 hz2
  have X3 := NX
  clear NX
  by_cases hE : E ≠ 0
  · have h1 : (E != 0) = true := by simpa using hE
    go_wp2_with fail
    go_ret
    exact ⟨rfl, B3.out⟩
  have hE := Decidable.not_not.1 hE
  have h1 : (E != 0) = false := by simpa using hE
  obtain ⟨⟨k1, k2⟩, ⟨k3, k4⟩, ⟨k5, k6⟩, k11, k12⟩ := HZ.out hE
  obtain ⟨l1, l2⟩ := hlt
  obtain ⟨l3, l4⟩ := hcs
  obtain ⟨l5, l6⟩ := hds
  have cg0 : bv1.cell? ⟨w.heap.size, 0, none⟩ = some (.int .i64 no) := G3.out.cell 0
  have cg1 : bv1.cell? ⟨w.heap.size, 1, none⟩ = some (.int .i64 rc) := G3.out.cell 1
  have cg2 : bv1.cell? ⟨w.heap.size, 2, none⟩ = some (.int .i64 cl) := G3.out.cell 2
  have cg3 : bv1.cell? ⟨w.heap.size, 3, none⟩ = some (.int .i64 dr) := G3.out.cell 3
  have cg4 : bv1.cell? ⟨w.heap.size, 4, none⟩ = some (.int .i64 si) := G3.out.cell 4
  have cg5 : bv1.cell? ⟨w.heap.size, 5, none⟩ = some (.slice A n c) := G3.out.cell 5
  go_upto_region 7 with fail
  obtain ⟨v2, hbx⟩ : ∃ zz, zz = bv1.alloc (.cells #[.int .i64 no, .int .i64 rc, .int .i64 cl, .int .i64 dr, .int .i64 si, .slice A n c] 24) := ⟨_, rfl⟩
  rw [← hbx]
  have hb : Below bv1.heap.size bv1 v2 := hbx ▸ below_alloc _ _
  have NH := Lib.hid (show Blk v2 bv1.heap.size 24 #[.int .i64 no, .int .i64 rc, .int .i64 cl, .int .i64 dr, .int .i64 si, .slice A n c] from hbx ▸ Blk.new _ _ _)
  clear hbx
  clear cg0 cg1 cg2 cg3 cg4 cg5
  have hbz : w.heap.size ≤ bv1.heap.size := by omega
  have hxz : v1.heap.size < bv1.heap.size := X3.out.lt
  have B4 := Lib.hid (B3.out.trans (hb.mono (by omega)))
  have G4 := Lib.hid (G3.out.below hb G3.out.lt)
  have X4 := Lib.hid (X3.out.below hb X3.out.lt)
  have hs4 := G4.out.lt
  have hz4 := B4.out.size
  clear hb B3 G3 hs3 hz3 X3
  have cg0 : v2.cell? ⟨w.heap.size, 0, none⟩ = some (.int .i64 no) := G4.out.cell 0
  have cg1 : v2.cell? ⟨w.heap.size, 1, none⟩ = some (.int .i64 rc) := G4.out.cell 1
  have cg2 : v2.cell? ⟨w.heap.size, 2, none⟩ = some (.int .i64 cl) := G4.out.cell 2
  have cg3 : v2.cell? ⟨w.heap.size, 3, none⟩ = some (.int .i64 dr) := G4.out.cell 3
  have cg4 : v2.cell? ⟨w.heap.size, 4, none⟩ = some (.int .i64 si) := G4.out.cell 4
  have cg5 : v2.cell? ⟨w.heap.size, 5, none⟩ = some (.slice A n c) := G4.out.cell 5
  have ch2 : v2.cell? ⟨bv1.heap.size, 2, none⟩ = some (.int .i64 cl) := NH.out.cell 2
  have fh2 := NH.out.frozen 2
  have ch3 : v2.cell? ⟨bv1.heap.size, 3, none⟩ = some (.int .i64 dr) := NH.out.cell 3
  have fh3 := NH.out.frozen 3
  have ch4 : v2.cell? ⟨bv1.heap.size, 4, none⟩ = some (.int .i64 si) := NH.out.cell 4
  have fh4 := NH.out.frozen 4
  have hlh := NH.out.lt
  go_region
  have hb : Below bv1.heap.size v2 (((v2.setCell ⟨bv1.heap.size, 4, none⟩ (.int .i64 (max si (min h (si + lt))))).setCell ⟨bv1.heap.size, 2, none⟩ (.int .i64 (max 0 (cl - cs)))).setCell ⟨bv1.heap.size, 3, none⟩ (.int .i64 (max 0 (dr - ds)))).drew :=
    ((((Below.refl _ _).setCell (by simp) _).setCell (by simp) _).setCell (by simp) _).drew
  have NK := Lib.hid ((((NH.out.set_ 4 (.int .i64 (max si (min h (si + lt))))).set_ 2 (.int .i64 (max 0 (cl - cs)))).set_ 3 (.int .i64 (max 0 (dr - ds)))).drewN 1)
  have HV2 := HV.out hE
  clear HV
  obtain ⟨b', ⟨a', HX2, hv1, hv2⟩⟩ := HV2
  have NK : Hid (Blk (((v2.setCell ⟨bv1.heap.size, 4, none⟩ (.int .i64 (max si (min h (si + lt))))).setCell ⟨bv1.heap.size, 2, none⟩ (.int .i64 (max 0 (cl - cs)))).setCell ⟨bv1.heap.size, 3, none⟩ (.int .i64 (max 0 (dr - ds)))).drew bv1.heap.size 24 #[.int .i64 no, .int .i64 rc, .int .i64 (max 0 (cl - cs)), .int .i64 (max 0 (dr - ds)), .int .i64 (max si (min h (si + lt))), .slice A n c]) := NK
  generalize (((v2.setCell ⟨bv1.heap.size, 4, none⟩ (.int .i64 (max si (min h (si + lt))))).setCell ⟨bv1.heap.size, 2, none⟩ (.int .i64 (max 0 (cl - cs)))).setCell ⟨bv1.heap.size, 3, none⟩ (.int .i64 (max 0 (dr - ds)))).drew = v3 at hb NK ⊢
  clear ch2 ch3 ch4 fh2 fh3 fh4 NH hlh cg0 cg1 cg2 cg3 cg4 cg5
  have B9 := Lib.hid (B4.out.trans (hb.mono hbz))
  have X9 := Lib.hid (X4.out.below hb (by omega))
  have hz9 := NK.out.lt
  have cg0 : v3.cell? ⟨bv1.heap.size, 0, none⟩ = some (.int .i64 no) := NK.out.cell 0
  have cg1 : v3.cell? ⟨bv1.heap.size, 1, none⟩ = some (.int .i64 rc) := NK.out.cell 1
  have cg2 : v3.cell? ⟨bv1.heap.size, 2, none⟩ = some (.int .i64 (max 0 (cl - cs))) := NK.out.cell 2
  have cg3 : v3.cell? ⟨bv1.heap.size, 3, none⟩ = some (.int .i64 (max 0 (dr - ds))) := NK.out.cell 3
  have cg4 : v3.cell? ⟨bv1.heap.size, 4, none⟩ = some (.int .i64 (max si (min h (si + lt)))) := NK.out.cell 4
  have cg5 : v3.cell? ⟨bv1.heap.size, 5, none⟩ = some (.slice A n c) := NK.out.cell 5
  go_wp2_with fail
  refine (HX2.out _ (HR.out.below (B9.out.mono hB)) (by have := B9.out.size; omega)).mono ?_
  rintro e v4 ⟨rfl, hb4⟩
  have B10 := Lib.hid (B9.out.trans (hb4.mono B9.out.size))
  have X10 := Lib.hid (X9.out.below hb4 X9.out.lt)
  clear hb4 cg0 cg1 cg2 cg3 cg4 cg5 hb
  have cx0 : v4.cell? ⟨v1.heap.size, 0, none⟩ = some (.int .i64 a) := X10.out.cell 0
  have cx1 : v4.cell? ⟨v1.heap.size, 1, none⟩ = some (.int .i64 b) := X10.out.cell 1
  have hx4 := X10.out.lt
  go_wp2_with fail
  go_ret
  exact ⟨rfl, B10.out.alloc B10.out.size _⟩
end Go.Proofs.Ytfddlodfmmnanaa
