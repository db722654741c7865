/- Contract of the law GaugeTruth: it returns true for every input. -/
import Derived.Test.YtfddlodfmmnanaaSane
namespace Go.Proofs.Ytfddlodfmmnanaa
open Go.RowKit

theorem rdE_zero {r s h : Int} (hE : rdE r s h = 0) : r = 0 ∧ (0 ≤ s ∧ s ≤ 1048576) ∧ 0 ≤ h ∧ h ≤ 4096 := by
  unfold rdE at hE
  split at hE
  · split at hE
    · rename_i h0 h1
      simp [inB] at h1
      exact ⟨h0, by omega, by omega⟩
    · omega
  · omega
theorem flE_zero {r s : Int} (hE : flE r s = 0) : r = 0 ∧ 0 ≤ s ∧ s ≤ 1048576 := by
  unfold flE at hE
  split at hE
  · split at hE
    · rename_i h0 h1
      simp [inB] at h1
      exact ⟨h0, by omega, by omega⟩
    · omega
  · omega

set_option maxRecDepth 100000 in
set_option maxHeartbeats 4000000 in
theorem truth_5 (no rc cl dr si : Int) (A : Option Addr) (n c B : Nat) (S F : Nat → Int) (s t h : Int) (w : World) (hm : n ≤ 9223372036854775807) (hB : B ≤ w.heap.size) (hr : RdP w B A n S F) :
    Calls Try.prog 5 #[gv no rc cl dr si A n c, .int .i64 s, .int .i64 t, .int .i64 h] w fun e w' => e = .returned (.bool true) ∧ Below w.heap.size w w' := by
  have HR := Lib.hid hr
  clear hr
  obtain ⟨E, hE⟩ : ∃ E, E = rdE (chk no rc cl dr si n S F) s h := ⟨_, rfl⟩
  obtain ⟨a, ha⟩ : ∃ a, a = flR E (fLo S F n (max 0 (s - errN cl dr si h))) := ⟨_, rfl⟩
  obtain ⟨b, hb⟩ : ∃ b, b = flR E (fHi S F n (min 1048576 (s + errN cl dr si h))) := ⟨_, rfl⟩
  obtain ⟨E', hE'⟩ : ∃ E', E' = flE (chk no rc cl dr si n S F) t := ⟨_, rfl⟩
  obtain ⟨p, hp⟩ : ∃ p, p = flR E' (fLo S F n t) := ⟨_, rfl⟩
  obtain ⟨q, hq⟩ : ∃ q, q = flR E' (fHi S F n t) := ⟨_, rfl⟩
  have HX : Hid (∀ W, RdP W B A n S F → B ≤ W.heap.size → Calls Try.prog 15 #[gv no rc cl dr si A n c, .int .i64 s, .int .i64 h] W fun e w' => e = .returned (.tuple #[.agg #[.int .i64 a, .int .i64 b], .int .i64 E]) ∧ Below W.heap.size W w') :=
    Lib.hid fun W h1 h2 => by rw [ha, hb, hE]; exact Read_15 no rc cl dr si A n c B S F s h W hm h2 (fun _ => h1)
  have HY : Hid (∀ W, RdP W B A n S F → B ≤ W.heap.size → Calls Try.prog 11 #[gv no rc cl dr si A n c, .int .i64 t] W fun e w' => e = .returned (.tuple #[.agg #[.int .i64 p, .int .i64 q], .int .i64 E']) ∧ Below W.heap.size W w') :=
    Lib.hid fun W h1 h2 => by rw [hp, hq, hE']; exact Flow_11 no rc cl dr si A n c B S F t W hm h2 (fun _ => h1)
  have HZ : Hid (E = 0 → E' = 0 → (0 ≤ cl ∧ cl ≤ 1000) ∧ (0 ≤ dr ∧ dr ≤ 1000) ∧ (0 ≤ h ∧ h ≤ 4096) ∧ (0 ≤ s ∧ s ≤ 1048576) ∧ (0 ≤ t ∧ t ≤ 1048576) ∧ 0 ≤ si ∧ si ≤ 4096) := Lib.hid fun h1 h2 => by
    obtain ⟨z1, z2, z3⟩ := rdE_zero (hE.symm.trans h1)
    obtain ⟨_, z4⟩ := flE_zero (hE'.symm.trans h2)
    obtain ⟨_, _, z5, z6, z7⟩ := head_in (chk_zero z1).2.2.1
    exact ⟨z5, z6, z3, z2, z4, z7⟩
  have HV : Hid (E = 0 → E' = 0 → max s t - min s t ≤ errN cl dr si h → a ≤ p ∧ q ≤ b) := Lib.hid fun h1 h2 h3 => by
    obtain ⟨z1, z2, z3⟩ := rdE_zero (hE.symm.trans h1)
    obtain ⟨_, z4⟩ := flE_zero (hE'.symm.trans h2)
    obtain ⟨_, z5, _, z6⟩ := chk_zero z1
    rw [ha, hb, hp, hq, h1, h2]
    simp only [flR, if_true]
    exact ⟨(flow_mono z6 z5 (by omega)).1, (flow_mono z6 z5 (by omega)).2⟩
  clear hE ha hb hE' hp hq
  unfold gv at HX HY ⊢
  go_enter Try.func5, Try.ntmps5
  go_wp2_with fail
  obtain ⟨u0, hu0⟩ : ∃ u0, u0 = w.alloc (.cells #[.int .i64 no, .int .i64 rc, .int .i64 cl, .int .i64 dr, .int .i64 si, .slice A n c] 24) := ⟨_, rfl⟩
  have G0 : Hid (Blk u0 w.heap.size 24 #[.int .i64 no, .int .i64 rc, .int .i64 cl, .int .i64 dr, .int .i64 si, .slice A n c]) := Lib.hid (hu0 ▸ Blk.new _ _ _)
  have B0 : Hid (Below w.heap.size w u0) := Lib.hid (hu0 ▸ below_alloc _ _)
  rw [← hu0]
  clear hu0
  have hs0 := G0.out.lt
  have hz0 := B0.out.size
  refine (sane_10 _).mono ?_
  rintro e v0 ⟨rfl, hb⟩
  have B1 := Lib.hid (B0.out.trans (hb.mono (by omega)))
  have G1 := Lib.hid (G0.out.below hb G0.out.lt)
  have hs1 := G1.out.lt
  have hz1 := B1.out.size
  clear hb B0 G0 hs0 hz0
  have cg0 : v0.cell? ⟨w.heap.size, 0, none⟩ = some (.int .i64 no) := G1.out.cell 0
  have cg1 : v0.cell? ⟨w.heap.size, 1, none⟩ = some (.int .i64 rc) := G1.out.cell 1
  have cg2 : v0.cell? ⟨w.heap.size, 2, none⟩ = some (.int .i64 cl) := G1.out.cell 2
  have cg3 : v0.cell? ⟨w.heap.size, 3, none⟩ = some (.int .i64 dr) := G1.out.cell 3
  have cg4 : v0.cell? ⟨w.heap.size, 4, none⟩ = some (.int .i64 si) := G1.out.cell 4
  have cg5 : v0.cell? ⟨w.heap.size, 5, none⟩ = some (.slice A n c) := G1.out.cell 5
  go_wp2_with fail
  refine (HX.out _ (HR.out.below (B1.out.mono hB)) (by omega)).mono ?_
  rintro e v1 ⟨rfl, hb⟩
  clear cg0 cg1 cg2 cg3 cg4 cg5
  have B2 := Lib.hid (B1.out.trans (hb.mono (by omega)))
  have G2 := Lib.hid (G1.out.below hb G1.out.lt)
  have hs2 := G2.out.lt
  have hz2 := B2.out.size
  clear hb B1 G1 hs1 hz1
  go_upto_region 4 with fail
  obtain ⟨bv1, hbx⟩ : ∃ zz, zz = v1.alloc (.cells #[.int .i64 a, .int .i64 b] 27) := ⟨_, rfl⟩
  rw [← hbx]
  have hb : Below v1.heap.size v1 bv1 := hbx ▸ below_alloc _ _
  have NX := Lib.hid (show Blk bv1 v1.heap.size 27 #[.int .i64 a, .int .i64 b] from hbx ▸ Blk.new _ _ _)
  clear hbx
  have B3 := Lib.hid (B2.out.trans (hb.mono (by omega)))
  have G3 := Lib.hid (G2.out.below hb G2.out.lt)
  have hs3 := G3.out.lt
  have hz3 := B3.out.size
  clear hb B2 G2 hs2 hz2
  have X3 := NX
  clear NX
  have cg0 : bv1.cell? ⟨w.heap.size, 0, none⟩ = some (.int .i64 no) := G3.out.cell 0
  have cg1 : bv1.cell? ⟨w.heap.size, 1, none⟩ = some (.int .i64 rc) := G3.out.cell 1
  have cg2 : bv1.cell? ⟨w.heap.size, 2, none⟩ = some (.int .i64 cl) := G3.out.cell 2
  have cg3 : bv1.cell? ⟨w.heap.size, 3, none⟩ = some (.int .i64 dr) := G3.out.cell 3
  have cg4 : bv1.cell? ⟨w.heap.size, 4, none⟩ = some (.int .i64 si) := G3.out.cell 4
  have cg5 : bv1.cell? ⟨w.heap.size, 5, none⟩ = some (.slice A n c) := G3.out.cell 5
  go_wp2_with fail
  refine (HY.out _ (HR.out.below (B3.out.mono hB)) (by omega)).mono ?_
  rintro e v2 ⟨rfl, hb⟩
  clear cg0 cg1 cg2 cg3 cg4 cg5
  have B4 := Lib.hid (B3.out.trans (hb.mono (by omega)))
  have G4 := Lib.hid (G3.out.below hb G3.out.lt)
  have X4 := Lib.hid (X3.out.below hb X3.out.lt)
  have hs4 := G4.out.lt
  have hz4 := B4.out.size
  clear hb B3 G3 hs3 hz3 X3
  go_upto_region 5 with fail
  obtain ⟨bv2, hbx⟩ : ∃ zz, zz = v2.alloc (.cells #[.int .i64 p, .int .i64 q] 27) := ⟨_, rfl⟩
  rw [← hbx]
  have hb : Below v2.heap.size v2 bv2 := hbx ▸ below_alloc _ _
  have NY := Lib.hid (show Blk bv2 v2.heap.size 27 #[.int .i64 p, .int .i64 q] from hbx ▸ Blk.new _ _ _)
  clear hbx
  have B5 := Lib.hid (B4.out.trans (hb.mono (by omega)))
  have G5 := Lib.hid (G4.out.below hb G4.out.lt)
  have X5 := Lib.hid (X4.out.below hb X4.out.lt)
  have hs5 := G5.out.lt
  have hz5 := B5.out.size
  clear hb B4 G4 hs4 hz4 X4
  have Y5 := NY
  clear NY
  by_cases hE : E ≠ 0
  · have h1 : (E != 0) = true := by simpa using hE
    go_wp2_with fail
    go_ret
    exact ⟨rfl, B5.out⟩
  have hE := Decidable.not_not.1 hE
  by_cases hE2 : E' ≠ 0
  · have h1 : (E != 0) = false := by simpa using hE
    have h2 : (E' != 0) = true := by simpa using hE2
    go_wp2_with fail
    go_ret
    exact ⟨rfl, B5.out⟩
  have hE2 := Decidable.not_not.1 hE2
  have h1 : (E != 0) = false := by simpa using hE
  have h2 : (E' != 0) = false := by simpa using hE2
  obtain ⟨⟨k1, k2⟩, ⟨k3, k4⟩, ⟨k5, k6⟩, ⟨k7, k8⟩, ⟨k9, k10⟩, k11, k12⟩ := HZ.out hE hE2
  obtain ⟨k13, k14, k15, k16⟩ := errN_range ⟨k1, k2⟩ ⟨k3, k4⟩ k11 k6
  clear HZ
  have cg2 : bv2.cell? ⟨w.heap.size, 2, none⟩ = some (.int .i64 cl) := G5.out.cell 2
  have cg3 : bv2.cell? ⟨w.heap.size, 3, none⟩ = some (.int .i64 dr) := G5.out.cell 3
  have cg4 : bv2.cell? ⟨w.heap.size, 4, none⟩ = some (.int .i64 si) := G5.out.cell 4
  have cx0 : bv2.cell? ⟨v1.heap.size, 0, none⟩ = some (.int .i64 a) := X5.out.cell 0
  have cx1 : bv2.cell? ⟨v1.heap.size, 1, none⟩ = some (.int .i64 b) := X5.out.cell 1
  have cy0 : bv2.cell? ⟨v2.heap.size, 0, none⟩ = some (.int .i64 p) := Y5.out.cell 0
  have cy1 : bv2.cell? ⟨v2.heap.size, 1, none⟩ = some (.int .i64 q) := Y5.out.cell 1
  have HW := Lib.hid (HV.out hE hE2)
  clear HV
  subst hE
  subst hE2
  obtain ⟨er, her⟩ : ∃ er, er = errN cl dr si h := ⟨_, rfl⟩
  rw [← her] at HW k13 k14
  have HER : Hid (er = cl + dr * (max 0 (h - si) / 24)) := Lib.hid her
  clear her
  by_cases hc : si < h
  · rw [show max 0 (h - si) = h - si by omega] at HER k15 k16
    have hmw : IntKind.i64.wrap (dr * ((h - si) / 24)) = dr * ((h - si) / 24) := IntWalk.i64_in _ ⟨by omega, by omega⟩
    by_cases hd : cl + dr * ((h - si) / 24) < max s t - min s t
    · go_wp2_with fail
      go_ret
      exact ⟨rfl, B5.out⟩
    · have hd' : max s t - min s t ≤ cl + dr * ((h - si) / 24) := by omega
      obtain ⟨hv1, hv2⟩ := HW.out (by rw [HER.out]; exact hd')
      go_wp2_with fail
      go_ret
      exact ⟨rfl, B5.out⟩
  · have hc' : h ≤ si := by omega
    rw [show max 0 (h - si) = 0 by omega] at HER k15 k16
    by_cases hd : cl < max s t - min s t
    · go_wp2_with fail
      go_ret
      exact ⟨rfl, B5.out⟩
    · have hd' : max s t - min s t ≤ cl := by omega
      obtain ⟨hv1, hv2⟩ := HW.out (by rw [HER.out]; simpa using hd')
      go_wp2_with fail
      go_ret
      exact ⟨rfl, B5.out⟩
end Go.Proofs.Ytfddlodfmmnanaa
