/- Contracts of the laws GaugeSpec and GaugeReadSpec: they return true for every input. -/
import Derived.Test.YtfddlodfmmnanaaSane
namespace Go.Proofs.Ytfddlodfmmnanaa
open Go.RowKit

set_option maxRecDepth 100000 in
set_option maxHeartbeats 4000000 in
theorem spec_3 (no rc cl dr si : Int) (A : Option Addr) (n c B : Nat) (S F : Nat → Int) (s : Int) (w : World) (hm : n ≤ 9223372036854775807) (hB : B ≤ w.heap.size) (hr : RdP w B A n S F) :
    Calls Try.prog 3 #[gv no rc cl dr si A n c, .int .i64 s] w fun e w' => e = .returned (.bool true) ∧ Below w.heap.size w w' := by
  have HR := Lib.hid hr
  clear hr
  obtain ⟨E, hE⟩ : ∃ E, E = flE (chk no rc cl dr si n S F) s := ⟨_, rfl⟩
  obtain ⟨a, ha⟩ : ∃ a, a = flR E (fLo S F n s) := ⟨_, rfl⟩
  obtain ⟨b, hb⟩ : ∃ b, b = flR E (fHi S F n s) := ⟨_, rfl⟩
  have HX : Hid (∀ W, RdP W B A n S F → B ≤ W.heap.size → Calls Try.prog 11 #[gv no rc cl dr si A n c, .int .i64 s] W fun e w' => e = .returned (.tuple #[.agg #[.int .i64 a, .int .i64 b], .int .i64 E]) ∧ Below W.heap.size W w') :=
    Lib.hid fun W h1 h2 => by rw [ha, hb, hE]; exact Flow_11 no rc cl dr si A n c B S F s W hm h2 (fun _ => h1)
  have HY : Hid (∀ W, RdP W B A n S F → B ≤ W.heap.size → Calls Try.prog 12 #[gv no rc cl dr si A n c, .int .i64 s] W fun e w' => e = .returned (.tuple #[.agg #[.int .i64 a, .int .i64 b], .int .i64 E]) ∧ Below W.heap.size W w') :=
    Lib.hid fun W h1 h2 => by rw [ha, hb, hE]; exact ref_Flow_12 no rc cl dr si A n c B S F s W hm h2 (fun _ => h1)
  have HC : Hid (∀ W, RdP W B A n S F → B ≤ W.heap.size → Calls Try.prog 13 #[gv no rc cl dr si A n c] W fun e w' => e = .returned (.int .i64 (chk no rc cl dr si n S F)) ∧ Below W.heap.size W w') :=
    Lib.hid fun W h1 h2 => check_13 no rc cl dr si A n c B S F W hm h2 (fun _ => h1)
  have HD : Hid (∀ W, RdP W B A n S F → B ≤ W.heap.size → Calls Try.prog 14 #[gv no rc cl dr si A n c] W fun e w' => e = .returned (.int .i64 (chk no rc cl dr si n S F)) ∧ Below W.heap.size W w') :=
    Lib.hid fun W h1 h2 => ref_check_14 no rc cl dr si A n c B S F W hm h2 (fun _ => h1)
  clear hE ha hb
  generalize chk no rc cl dr si n S F = r at HC HD
  unfold gv at HX HY HC HD ⊢
  go_enter Try.func3, Try.ntmps3
  go_wp2_with fail
  obtain ⟨u0, hu0⟩ : ∃ u0, u0 = w.alloc (.cells #[.int .i64 no, .int .i64 rc, .int .i64 cl, .int .i64 dr, .int .i64 si, .slice A n c] 24) := ⟨_, rfl⟩
  have G0 : Hid (Blk u0 w.heap.size 24 #[.int .i64 no, .int .i64 rc, .int .i64 cl, .int .i64 dr, .int .i64 si, .slice A n c]) := Lib.hid (hu0 ▸ Blk.new _ _ _)
  have B0 : Hid (Below w.heap.size w u0) := Lib.hid (hu0 ▸ below_alloc _ _)
  rw [← hu0]
  clear hu0
  have hs0 := G0.out.lt
  have hz0 := B0.out.size
  refine (sane_10 _).mono ?_
  rintro e v0 ⟨rfl, hb⟩
  have B1 := Lib.hid (B0.out.trans (hb.mono (by omega)))
  have G1 := Lib.hid (G0.out.below hb G0.out.lt)
  have hs1 := G1.out.lt
  have hz1 := B1.out.size
  clear hb B0 G0 hs0 hz0
  have cg0 : v0.cell? ⟨w.heap.size, 0, none⟩ = some (.int .i64 no) := G1.out.cell 0
  have cg1 : v0.cell? ⟨w.heap.size, 1, none⟩ = some (.int .i64 rc) := G1.out.cell 1
  have cg2 : v0.cell? ⟨w.heap.size, 2, none⟩ = some (.int .i64 cl) := G1.out.cell 2
  have cg3 : v0.cell? ⟨w.heap.size, 3, none⟩ = some (.int .i64 dr) := G1.out.cell 3
  have cg4 : v0.cell? ⟨w.heap.size, 4, none⟩ = some (.int .i64 si) := G1.out.cell 4
  have cg5 : v0.cell? ⟨w.heap.size, 5, none⟩ = some (.slice A n c) := G1.out.cell 5
  go_wp2_with fail
  refine (HX.out _ (HR.out.below (B1.out.mono hB)) (by omega)).mono ?_
  rintro e v1 ⟨rfl, hb⟩
  clear cg0 cg1 cg2 cg3 cg4 cg5
  have B2 := Lib.hid (B1.out.trans (hb.mono (by omega)))
  have G2 := Lib.hid (G1.out.below hb G1.out.lt)
  have hs2 := G2.out.lt
  have hz2 := B2.out.size
  clear hb B1 G1 hs1 hz1
  go_upto_region 4 with fail
  obtain ⟨bv1, hbx⟩ : ∃ zz, zz = v1.alloc (.cells #[.int .i64 a, .int .i64 b] 27) := ⟨_, rfl⟩
  rw [← hbx]
  have hb : Below v1.heap.size v1 bv1 := hbx ▸ below_alloc _ _
  have NX := Lib.hid (show Blk bv1 v1.heap.size 27 #[.int .i64 a, .int .i64 b] from hbx ▸ Blk.new _ _ _)
  clear hbx
  have B3 := Lib.hid (B2.out.trans (hb.mono (by omega)))
  have G3 := Lib.hid (G2.out.below hb G2.out.lt)
  have hs3 := G3.out.lt
  have hz3 := B3.out.size
  clear hb B2 G2 hs2 hz2
  have X3 := NX
  clear NX
  have cg0 : bv1.cell? ⟨w.heap.size, 0, none⟩ = some (.int .i64 no) := G3.out.cell 0
  have cg1 : bv1.cell? ⟨w.heap.size, 1, none⟩ = some (.int .i64 rc) := G3.out.cell 1
  have cg2 : bv1.cell? ⟨w.heap.size, 2, none⟩ = some (.int .i64 cl) := G3.out.cell 2
  have cg3 : bv1.cell? ⟨w.heap.size, 3, none⟩ = some (.int .i64 dr) := G3.out.cell 3
  have cg4 : bv1.cell? ⟨w.heap.size, 4, none⟩ = some (.int .i64 si) := G3.out.cell 4
  have cg5 : bv1.cell? ⟨w.heap.size, 5, none⟩ = some (.slice A n c) := G3.out.cell 5
  go_wp2_with fail
  refine (HY.out _ (HR.out.below (B3.out.mono hB)) (by omega)).mono ?_
  rintro e v2 ⟨rfl, hb⟩
  clear cg0 cg1 cg2 cg3 cg4 cg5
  have B4 := Lib.hid (B3.out.trans (hb.mono (by omega)))
  have G4 := Lib.hid (G3.out.below hb G3.out.lt)
  have X4 := Lib.hid (X3.out.below hb X3.out.lt)
  have hs4 := G4.out.lt
  have hz4 := B4.out.size
  clear hb B3 G3 hs3 hz3 X3
  go_upto_region 5 with fail
  obtain ⟨bv2, hbx⟩ : ∃ zz, zz = v2.alloc (.cells #[.int .i64 a, .int .i64 b] 27) := ⟨_, rfl⟩
  rw [← hbx]
  have hb : Below v2.heap.size v2 bv2 := hbx ▸ below_alloc _ _
  have NY := Lib.hid (show Blk bv2 v2.heap.size 27 #[.int .i64 a, .int .i64 b] from hbx ▸ Blk.new _ _ _)
  clear hbx
  have B5 := Lib.hid (B4.out.trans (hb.mono (by omega)))
  have G5 := Lib.hid (G4.out.below hb G4.out.lt)
  have X5 := Lib.hid (X4.out.below hb X4.out.lt)
  have hs5 := G5.out.lt
  have hz5 := B5.out.size
  clear hb B4 G4 hs4 hz4 X4
  have Y5 := NY
  clear NY
  have HC2 : Hid (∀ W, Hid (Below bv2.heap.size bv2 W) → Calls Try.prog 13 #[.agg #[.int .i64 no, .int .i64 rc, .int .i64 cl, .int .i64 dr, .int .i64 si, .slice A n c]] W fun e w' => e = .returned (.int .i64 r) ∧ Hid (Below bv2.heap.size bv2 w') ∧ w'.cell? ⟨w.heap.size, 0, none⟩ = some (.int .i64 no) ∧ w'.cell? ⟨w.heap.size, 1, none⟩ = some (.int .i64 rc) ∧ w'.cell? ⟨w.heap.size, 2, none⟩ = some (.int .i64 cl) ∧ w'.cell? ⟨w.heap.size, 3, none⟩ = some (.int .i64 dr) ∧ w'.cell? ⟨w.heap.size, 4, none⟩ = some (.int .i64 si) ∧ w'.cell? ⟨w.heap.size, 5, none⟩ = some (.slice A n c) ∧ w'.cell? ⟨v1.heap.size, 0, none⟩ = some (.int .i64 a) ∧ w'.cell? ⟨v1.heap.size, 1, none⟩ = some (.int .i64 b) ∧ w'.cell? ⟨v2.heap.size, 0, none⟩ = some (.int .i64 a) ∧ w'.cell? ⟨v2.heap.size, 1, none⟩ = some (.int .i64 b)) :=
    Lib.hid fun W h => (HC.out W (HR.out.below ((B5.out.trans (h.out.mono (by omega))).mono hB)) (by have := h.out.size; omega)).mono fun e w' h2 => by
      have hb : Below bv2.heap.size bv2 w' := h.out.trans (h2.2.mono h.out.size)
      have g := G5.out.below hb G5.out.lt
      have x := X5.out.below hb X5.out.lt
      have y := Y5.out.below hb Y5.out.lt
      exact ⟨h2.1, Lib.hid hb, g.cell 0, g.cell 1, g.cell 2, g.cell 3, g.cell 4, g.cell 5, x.cell 0, x.cell 1, y.cell 0, y.cell 1⟩
  clear HC
  have HD2 : Hid (∀ W, Hid (Below bv2.heap.size bv2 W) → Calls Try.prog 14 #[.agg #[.int .i64 no, .int .i64 rc, .int .i64 cl, .int .i64 dr, .int .i64 si, .slice A n c]] W fun e w' => e = .returned (.int .i64 r) ∧ Hid (Below bv2.heap.size bv2 w') ∧ w'.cell? ⟨w.heap.size, 0, none⟩ = some (.int .i64 no) ∧ w'.cell? ⟨w.heap.size, 1, none⟩ = some (.int .i64 rc) ∧ w'.cell? ⟨w.heap.size, 2, none⟩ = some (.int .i64 cl) ∧ w'.cell? ⟨w.heap.size, 3, none⟩ = some (.int .i64 dr) ∧ w'.cell? ⟨w.heap.size, 4, none⟩ = some (.int .i64 si) ∧ w'.cell? ⟨w.heap.size, 5, none⟩ = some (.slice A n c) ∧ w'.cell? ⟨v1.heap.size, 0, none⟩ = some (.int .i64 a) ∧ w'.cell? ⟨v1.heap.size, 1, none⟩ = some (.int .i64 b) ∧ w'.cell? ⟨v2.heap.size, 0, none⟩ = some (.int .i64 a) ∧ w'.cell? ⟨v2.heap.size, 1, none⟩ = some (.int .i64 b)) :=
    Lib.hid fun W h => (HD.out W (HR.out.below ((B5.out.trans (h.out.mono (by omega))).mono hB)) (by have := h.out.size; omega)).mono fun e w' h2 => by
      have hb : Below bv2.heap.size bv2 w' := h.out.trans (h2.2.mono h.out.size)
      have g := G5.out.below hb G5.out.lt
      have x := X5.out.below hb X5.out.lt
      have y := Y5.out.below hb Y5.out.lt
      exact ⟨h2.1, Lib.hid hb, g.cell 0, g.cell 1, g.cell 2, g.cell 3, g.cell 4, g.cell 5, x.cell 0, x.cell 1, y.cell 0, y.cell 1⟩
  clear HD
  have cg0 : bv2.cell? ⟨w.heap.size, 0, none⟩ = some (.int .i64 no) := G5.out.cell 0
  have cg1 : bv2.cell? ⟨w.heap.size, 1, none⟩ = some (.int .i64 rc) := G5.out.cell 1
  have cg2 : bv2.cell? ⟨w.heap.size, 2, none⟩ = some (.int .i64 cl) := G5.out.cell 2
  have cg3 : bv2.cell? ⟨w.heap.size, 3, none⟩ = some (.int .i64 dr) := G5.out.cell 3
  have cg4 : bv2.cell? ⟨w.heap.size, 4, none⟩ = some (.int .i64 si) := G5.out.cell 4
  have cg5 : bv2.cell? ⟨w.heap.size, 5, none⟩ = some (.slice A n c) := G5.out.cell 5
  have cx0 : bv2.cell? ⟨v1.heap.size, 0, none⟩ = some (.int .i64 a) := X5.out.cell 0
  have cx1 : bv2.cell? ⟨v1.heap.size, 1, none⟩ = some (.int .i64 b) := X5.out.cell 1
  have cy0 : bv2.cell? ⟨v2.heap.size, 0, none⟩ = some (.int .i64 a) := Y5.out.cell 0
  have cy1 : bv2.cell? ⟨v2.heap.size, 1, none⟩ = some (.int .i64 b) := Y5.out.cell 1
  go_region_held3 (fun w' => Hid (Below bv2.heap.size bv2 w') ∧ w'.cell? ⟨w.heap.size, 0, none⟩ = some (.int .i64 no) ∧ w'.cell? ⟨w.heap.size, 1, none⟩ = some (.int .i64 rc) ∧ w'.cell? ⟨w.heap.size, 2, none⟩ = some (.int .i64 cl) ∧ w'.cell? ⟨w.heap.size, 3, none⟩ = some (.int .i64 dr) ∧ w'.cell? ⟨w.heap.size, 4, none⟩ = some (.int .i64 si) ∧ w'.cell? ⟨w.heap.size, 5, none⟩ = some (.slice A n c) ∧ w'.cell? ⟨v1.heap.size, 0, none⟩ = some (.int .i64 a) ∧ w'.cell? ⟨v1.heap.size, 1, none⟩ = some (.int .i64 b) ∧ w'.cell? ⟨v2.heap.size, 0, none⟩ = some (.int .i64 a) ∧ w'.cell? ⟨v2.heap.size, 1, none⟩ = some (.int .i64 b))
    (refine ⟨?_, ?_, ?_, ?_, ?_, ?_, ?_, ?_, ?_, ?_, ?_⟩ <;> first | assumption | go_keep | exact Lib.hid (Below.refl _ _).drew)
    (first | (go_at_call 13; refine (HC2.out _ ?_).mono ?_; (first | assumption | (go_split_ands; assumption) | exact Lib.hid (Below.refl _ _).drew); rintro e w' ⟨rfl, hk, k0, k1, k2, k3, k4, k5, k6, k7, k8, k9⟩) | (go_at_call 14; refine (HD2.out _ ?_).mono ?_; (first | assumption | (go_split_ands; assumption) | exact Lib.hid (Below.refl _ _).drew); rintro e w' ⟨rfl, hk, k0, k1, k2, k3, k4, k5, k6, k7, k8, k9⟩))
  go_wp2_with fail
  go_ret
  exact ⟨rfl, B5.out.trans (hk.out.mono (by omega))⟩
end Go.Proofs.Ytfddlodfmmnanaa
