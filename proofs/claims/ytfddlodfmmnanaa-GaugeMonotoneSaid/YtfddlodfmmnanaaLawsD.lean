/- Contract of the law GaugeInverse: it returns true for every input. -/
import Derived.Test.YtfddlodfmmnanaaLawsC
namespace Go.Proofs.Ytfddlodfmmnanaa
open Go.RowKit

theorem stE_zero {r q : Int} (hE : stE r q = 0) : r = 0 := by
  unfold stE at hE
  split at hE
  · assumption
  · omega

theorem inverse_law {S F : Nat → Int} {n : Nat} {s f p q : Int} {ok : Bool} (hn : n ≠ 0) (hrow : rowsB S F n = true) (hs : 0 ≤ s ∧ s ≤ 1048576) (hok : ok = decide (stLo S F n f < stHi S F n f))
    (hp : ok = true → p = stLo S F n f) (hq : ok = true → q = (stHi S F n f : Int) - 1) :
    (fLo S F n s ≤ f ∧ f ≤ fHi S F n s ∧ ok = true ∧ p ≤ s ∧ s ≤ q) ∨ (ok = false ∧ (f < fLo S F n s ∨ fHi S F n s < f)) ∨ (ok = true ∧ s < p ∧ fHi S F n s < f) ∨ (ok = true ∧ p ≤ s ∧ q < s ∧ f < fLo S F n s) := by
  obtain ⟨i, rfl⟩ : ∃ i : Nat, s = i := ⟨s.toNat, by omega⟩
  have h1 := decide_eq_decide.1 (stLo_test hrow hn f (i := i) (by omega))
  have h2 := decide_eq_decide.1 (stHi_test hrow hn f (i := i) (by omega))
  by_cases h3 : stLo S F n f < stHi S F n f
  · have hok : ok = true := by rw [hok]; simpa using h3
    have hp := hp hok
    have hq := hq hok
    by_cases h4 : stLo S F n f ≤ i
    · have h5 := h1.2 h4
      by_cases h6 : stHi S F n f ≤ i
      · have h7 := h2.2 h6
        exact .inr (.inr (.inr ⟨hok, by omega, by omega, h7⟩))
      · have h7 : ¬ f < fLo S F n i := fun h => h6 (h2.1 h)
        exact .inl ⟨by omega, h5, hok, by omega, by omega⟩
    · have h5 : ¬ f ≤ fHi S F n i := fun h => h4 (h1.1 h)
      exact .inr (.inr (.inl ⟨hok, by omega, by omega⟩))
  · have hok : ok = false := by rw [hok]; simpa using h3
    refine .inr (.inl ⟨hok, ?_⟩)
    by_cases h4 : stLo S F n f ≤ i
    · exact .inl (h2.2 (by omega))
    · have h5 : ¬ f ≤ fHi S F n i := fun h => h4 (h1.1 h)
      exact .inr (by omega)

set_option maxRecDepth 100000 in
set_option maxHeartbeats 4000000 in
theorem inverse_6 (no rc cl dr si : Int) (A : Option Addr) (n c B : Nat) (S F : Nat → Int) (s f : Int) (w : World) (hm : n ≤ 9223372036854775807) (hB : B ≤ w.heap.size) (hr : RdP w B A n S F) :
    Calls Try.prog 6 #[gv no rc cl dr si A n c, .int .i64 s, .int .i64 f] w fun e w' => e = .returned (.bool true) ∧ Below w.heap.size w w' := by
  have HR := Lib.hid hr
  clear hr
  obtain ⟨E, hE⟩ : ∃ E, E = flE (chk no rc cl dr si n S F) s := ⟨_, rfl⟩
  obtain ⟨a, ha⟩ : ∃ a, a = flR E (fLo S F n s) := ⟨_, rfl⟩
  obtain ⟨b, hb⟩ : ∃ b, b = flR E (fHi S F n s) := ⟨_, rfl⟩
  obtain ⟨E', hE'⟩ : ∃ E', E' = stE (chk no rc cl dr si n S F) f := ⟨_, rfl⟩
  obtain ⟨p, hp⟩ : ∃ p : Int, p = if E' = 0 ∧ stLo S F n f < stHi S F n f then (stLo S F n f : Int) else 0 := ⟨_, rfl⟩
  obtain ⟨q, hq⟩ : ∃ q : Int, q = if E' = 0 ∧ stLo S F n f < stHi S F n f then (stHi S F n f : Int) - 1 else 0 := ⟨_, rfl⟩
  obtain ⟨ok, hok⟩ : ∃ ok, ok = decide (E' = 0 ∧ stLo S F n f < stHi S F n f) := ⟨_, rfl⟩
  have HX : Hid (∀ W, RdP W B A n S F → B ≤ W.heap.size → Calls Try.prog 11 #[gv no rc cl dr si A n c, .int .i64 s] W fun e w' => e = .returned (.tuple #[.agg #[.int .i64 a, .int .i64 b], .int .i64 E]) ∧ Below W.heap.size W w') :=
    Lib.hid fun W h1 h2 => by rw [ha, hb, hE]; exact Flow_11 no rc cl dr si A n c B S F s W hm h2 (fun _ => h1)
  have HS : Hid (∀ W, RdP W B A n S F → B ≤ W.heap.size → Calls Try.prog 17 #[gv no rc cl dr si A n c, .int .i64 f] W fun e w' => e = .returned (.tuple #[.agg #[.int .i64 p, .int .i64 q], .bool ok, .int .i64 E']) ∧ Below W.heap.size W w') :=
    Lib.hid fun W h1 h2 => by rw [hp, hq, hok, hE']; exact Stage_17 no rc cl dr si A n c B S F f W hm h2 (fun _ => h1)
  have HV : Hid (E = 0 → E' = 0 → (a ≤ f ∧ f ≤ b ∧ ok = true ∧ p ≤ s ∧ s ≤ q) ∨ (ok = false ∧ (f < a ∨ b < f)) ∨ (ok = true ∧ s < p ∧ b < f) ∨ (ok = true ∧ p ≤ s ∧ q < s ∧ f < a)) := Lib.hid fun h1 h2 => by
    obtain ⟨z1, z2⟩ := flE_zero (hE.symm.trans h1)
    obtain ⟨_, z5, _, z6⟩ := chk_zero z1
    have hok' : ok = decide (stLo S F n f < stHi S F n f) := by rw [hok]; simp [h2]
    have hl := inverse_law (f := f) (p := p) (q := q) z5 z6 z2 hok' (fun h => by rw [hp, if_pos ⟨h2, by rw [hok'] at h; simpa using h⟩]) (fun h => by rw [hq, if_pos ⟨h2, by rw [hok'] at h; simpa using h⟩])
    rw [ha, hb, h1]
    simpa only [flR, if_true] using hl
  clear hE ha hb hE' hp hq hok
  unfold gv at HX HS ⊢
  go_enter Try.func6, Try.ntmps6
  go_wp2_with fail
  obtain ⟨u0, hu0⟩ : ∃ u0, u0 = w.alloc (.cells #[.int .i64 no, .int .i64 rc, .int .i64 cl, .int .i64 dr, .int .i64 si, .slice A n c] 24) := ⟨_, rfl⟩
  have G0 : Hid (Blk u0 w.heap.size 24 #[.int .i64 no, .int .i64 rc, .int .i64 cl, .int .i64 dr, .int .i64 si, .slice A n c]) := Lib.hid (hu0 ▸ Blk.new _ _ _)
  have B0 : Hid (Below w.heap.size w u0) := Lib.hid (hu0 ▸ below_alloc _ _)
  rw [← hu0]
  clear hu0
  have hs0 := G0.out.lt
  have hz0 := B0.out.size
  refine (sane_10 _).mono ?_
  rintro e v0 ⟨rfl, hb⟩
  have B1 := Lib.hid (B0.out.trans (hb.mono (by omega)))
  have G1 := Lib.hid (G0.out.below hb G0.out.lt)
  have hs1 := G1.out.lt
  have hz1 := B1.out.size
  clear hb B0 G0 hs0 hz0
  have cg0 : v0.cell? ⟨w.heap.size, 0, none⟩ = some (.int .i64 no) := G1.out.cell 0
  have cg1 : v0.cell? ⟨w.heap.size, 1, none⟩ = some (.int .i64 rc) := G1.out.cell 1
  have cg2 : v0.cell? ⟨w.heap.size, 2, none⟩ = some (.int .i64 cl) := G1.out.cell 2
  have cg3 : v0.cell? ⟨w.heap.size, 3, none⟩ = some (.int .i64 dr) := G1.out.cell 3
  have cg4 : v0.cell? ⟨w.heap.size, 4, none⟩ = some (.int .i64 si) := G1.out.cell 4
  have cg5 : v0.cell? ⟨w.heap.size, 5, none⟩ = some (.slice A n c) := G1.out.cell 5
  go_wp2_with fail
  refine (HX.out _ (HR.out.below (B1.out.mono hB)) (by omega)).mono ?_
  rintro e v1 ⟨rfl, hb⟩
  clear cg0 cg1 cg2 cg3 cg4 cg5
  have B2 := Lib.hid (B1.out.trans (hb.mono (by omega)))
  have G2 := Lib.hid (G1.out.below hb G1.out.lt)
  have hs2 := G2.out.lt
  have hz2 := B2.out.size
  clear hb B1 G1 hs1 hz1
  go_upto_region 4 with fail
  obtain ⟨bv1, hbx⟩ : ∃ zz, zz = v1.alloc (.cells #[.int .i64 a, .int .i64 b] 27) := ⟨_, rfl⟩
  rw [← hbx]
  have hb : Below v1.heap.size v1 bv1 := hbx ▸ below_alloc _ _
  have NX := Lib.hid (show Blk bv1 v1.heap.size 27 #[.int .i64 a, .int .i64 b] from hbx ▸ Blk.new _ _ _)
  clear hbx
  have B3 := Lib.hid (B2.out.trans (hb.mono (by omega)))
  have G3 := Lib.hid (G2.out.below hb G2.out.lt)
  have hs3 := G3.out.lt
  have hz3 := B3.out.size
  clear hb B2 G2 hs2 hz2
  have X3 := NX
  clear NX
  have cg0 : bv1.cell? ⟨w.heap.size, 0, none⟩ = some (.int .i64 no) := G3.out.cell 0
  have cg1 : bv1.cell? ⟨w.heap.size, 1, none⟩ = some (.int .i64 rc) := G3.out.cell 1
  have cg2 : bv1.cell? ⟨w.heap.size, 2, none⟩ = some (.int .i64 cl) := G3.out.cell 2
  have cg3 : bv1.cell? ⟨w.heap.size, 3, none⟩ = some (.int .i64 dr) := G3.out.cell 3
  have cg4 : bv1.cell? ⟨w.heap.size, 4, none⟩ = some (.int .i64 si) := G3.out.cell 4
  have cg5 : bv1.cell? ⟨w.heap.size, 5, none⟩ = some (.slice A n c) := G3.out.cell 5
  go_wp2_with fail
  refine (HS.out _ (HR.out.below (B3.out.mono hB)) (by omega)).mono ?_
  rintro e v2 ⟨rfl, hb⟩
  clear cg0 cg1 cg2 cg3 cg4 cg5
  have B4 := Lib.hid (B3.out.trans (hb.mono (by omega)))
  have G4 := Lib.hid (G3.out.below hb G3.out.lt)
  have X4 := Lib.hid (X3.out.below hb X3.out.lt)
  have hs4 := G4.out.lt
  have hz4 := B4.out.size
  clear hb B3 G3 hs3 hz3 X3
  go_upto_region 5 with fail
  obtain ⟨bv2, hbx⟩ : ∃ zz, zz = v2.alloc (.cells #[.int .i64 p, .int .i64 q] 27) := ⟨_, rfl⟩
  rw [← hbx]
  have hb : Below v2.heap.size v2 bv2 := hbx ▸ below_alloc _ _
  have NP := Lib.hid (show Blk bv2 v2.heap.size 27 #[.int .i64 p, .int .i64 q] from hbx ▸ Blk.new _ _ _)
  clear hbx
  have B5 := Lib.hid (B4.out.trans (hb.mono (by omega)))
  have G5 := Lib.hid (G4.out.below hb G4.out.lt)
  have X5 := Lib.hid (X4.out.below hb X4.out.lt)
  have hs5 := G5.out.lt
  have hz5 := B5.out.size
  clear hb B4 G4 hs4 hz4 X4
  have P5 := NP
  clear NP
  by_cases hE : E ≠ 0
  · have h1 : (E != 0) = true := by simpa using hE
    go_wp2_with fail
    go_ret
    exact ⟨rfl, B5.out⟩
  have hE := Decidable.not_not.1 hE
  by_cases hE2 : E' ≠ 0
  · have h1 : (E != 0) = false := by simpa using hE
    have h2 : (E' != 0) = true := by simpa using hE2
    go_wp2_with fail
    go_ret
    exact ⟨rfl, B5.out⟩
  have hE2 := Decidable.not_not.1 hE2
  have hv := HV.out hE hE2
  clear HV
  subst hE
  subst hE2
  have cx0 : bv2.cell? ⟨v1.heap.size, 0, none⟩ = some (.int .i64 a) := X5.out.cell 0
  have cx1 : bv2.cell? ⟨v1.heap.size, 1, none⟩ = some (.int .i64 b) := X5.out.cell 1
  have cp0 : bv2.cell? ⟨v2.heap.size, 0, none⟩ = some (.int .i64 p) := P5.out.cell 0
  have cp1 : bv2.cell? ⟨v2.heap.size, 1, none⟩ = some (.int .i64 q) := P5.out.cell 1
  rcases hv with ⟨e1, e2, rfl, e3, e4⟩ | ⟨rfl, e1 | e1⟩ | ⟨rfl, e1, e2⟩ | ⟨rfl, e1, e2, e3⟩
  · go_wp2_with fail
    go_ret
    exact ⟨rfl, B5.out⟩
  · go_wp2_with fail
    go_ret
    exact ⟨rfl, B5.out⟩
  · have d1 : decide (f ≤ b) = false := by simpa using e1
    by_cases e2 : a ≤ f
    · go_wp2_with fail
      go_ret
      exact ⟨rfl, B5.out⟩
    · have e2' : f < a := by omega
      clear e2
      go_wp2_with fail
      go_ret
      exact ⟨rfl, B5.out⟩
  · have d1 : decide (f ≤ b) = false := by simpa using e2
    by_cases e3 : a ≤ f
    · go_wp2_with fail
      go_ret
      exact ⟨rfl, B5.out⟩
    · have e2' : f < a := by omega
      clear e3
      go_wp2_with fail
      go_ret
      exact ⟨rfl, B5.out⟩
  · have d1 : decide (s ≤ q) = false := by simpa using e2
    go_wp2_with fail
    go_ret
    exact ⟨rfl, B5.out⟩
end Go.Proofs.Ytfddlodfmmnanaa
