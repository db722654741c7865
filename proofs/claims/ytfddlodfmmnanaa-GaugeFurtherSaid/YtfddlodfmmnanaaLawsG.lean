/- Contract of the law GaugeFurther: it returns true for every input. -/
import Derived.Test.YtfddlodfmmnanaaFurtherB
import Derived.Maps.AppendAt
namespace Go.Proofs.Ytfddlodfmmnanaa
open Go.RowKit

/-- the table in the making: its gauge lies in block M, its rows in a block of their own behind it -/
def FurW (no rc cl dr si : Int) (M : Nat) (S F : Nat → Int) (w0 : World) (q : Nat) (v : Value) (W : World) : Prop :=
  Blk W M 24 #[.int .i64 no, .int .i64 rc, .int .i64 cl, .int .i64 dr, .int .i64 si, v] ∧ W.ownsRow (M + 1) 39 2 v q (rowP S F q) ∧ Below M w0 W
def FurI (no rc cl dr si : Int) (M : Nat) (S F : Nat → Int) (w0 : World) (q : Nat) (W : World) : Prop := ∃ v, FurW no rc cl dr si M S F w0 q v W

section
variable {no rc cl dr si : Int} {M : Nat} {S F : Nat → Int} {w0 : World} {q : Nat} {v : Value} {W : World}
theorem FurW.alloc (h : FurW no rc cl dr si M S F w0 q v W) (o : Obj) : FurW no rc cl dr si M S F w0 q v (W.alloc o) :=
  ⟨h.1.alloc o, h.2.1.alloc o, h.2.2.alloc (by have := h.1.lt; omega) o⟩
theorem FurW.own_ne (h : FurW no rc cl dr si M S F w0 q v W) : v.ownBlock ≠ some M := fun e => by have := (h.2.1.lt M e).1; omega
theorem FurW.own_new (h : FurW no rc cl dr si M S F w0 q v W) {k : Nat} (hk : W.heap.size ≤ k) : v.ownBlock ≠ some k := fun e => by have := (h.2.1.lt k e).2; omega
theorem FurW.mid (h : FurW no rc cl dr si M S F w0 q v W) {w3 : World} (hg : W.grownBy w3 v.ownBlock) : Blk w3 M 24 #[.int .i64 no, .int .i64 rc, .int .i64 cl, .int .i64 dr, .int .i64 si, v] :=
  (hg.block M h.1.lt (fun e => h.own_ne e.symm)).trans h.1
theorem FurW.push (h : FurW no rc cl dr si M S F w0 q v W) {w3 : World} {v' : Value} (hg : W.grownBy w3 v.ownBlock) (ho : w3.ownsRow (M + 1) 39 2 v' (q + 1) (rowP S F q ++ [.int .i64 (S q), .int .i64 (F q)])) :
    FurW no rc cl dr si M S F w0 (q + 1) v' (w3.setCell ⟨M, 5, none⟩ v') := by
  have hne : v'.ownBlock ≠ some M := fun e => by have := (ho.lt M e).1; omega
  have hgs : w3.grownBy (w3.setCell ⟨M, 5, none⟩ v') (some M) := ⟨rfl, rfl, rfl, by simp [World.setCell], fun k _ hk => Below.heap_setCell _ _ _ k (fun e => hk (by rw [e]))⟩
  refine ⟨(h.mid hg).set_ 5 v', ?_, ?_⟩
  · rw [← rowP_succ]
    exact ho.kept hgs (.inr hne)
  · exact (h.2.2.grown hg (by have := h.1.lt; omega) (fun j hj => by have := (h.2.1.lt j hj).1; omega)).setCell (Nat.le_refl _) _
theorem FurW.last (h : FurW no rc cl dr si M S F w0 q v W) {l : Nat} (hq : q = l + 1) : ∃ g cap, v = .slice (some ⟨g, 0, none⟩) q cap ∧ g < W.heap.size ∧ W.cell? ⟨g, l * 2, none⟩ = some (.int .i64 (S l)) := by
  obtain ⟨g, cap, hv, _, hlt⟩ := h.2.1.form (by omega)
  refine ⟨g, cap, hv, hlt, ?_⟩
  have := h.2.1.cells (g := g) (by rw [hv]; rfl) (l * 2) _ (rowP_at S F q (l * 2) (by omega))
  rwa [add_none, Nat.zero_add, ptc_x] at this
end

set_option maxRecDepth 100000 in
set_option maxHeartbeats 8000000 in
theorem further_8 (no rc cl dr si : Int) (A : Option Addr) (n c B : Nat) (S F : Nat → Int) (t s : Int) (w : World) (hm : n ≤ 9223372036854775807) (hB : B ≤ w.heap.size) (hr : RdP w B A n S F) :
    Calls Try.prog 8 #[gv no rc cl dr si A n c, .int .i64 t, .int .i64 s] w fun e w' => e = .returned (.bool true) ∧ Below w.heap.size w w' := by
  have HR := Lib.hid hr
  clear hr
  obtain ⟨E, hE⟩ : ∃ E, E = flE (chk no rc cl dr si n S F) t := ⟨_, rfl⟩
  obtain ⟨a, ha⟩ : ∃ a, a = flR E (fLo S F n t) := ⟨_, rfl⟩
  obtain ⟨b, hb⟩ : ∃ b, b = flR E (fHi S F n t) := ⟨_, rfl⟩
  have HX : Hid (∀ W, RdP W B A n S F → B ≤ W.heap.size → Calls Try.prog 11 #[gv no rc cl dr si A n c, .int .i64 t] W fun e w' => e = .returned (.tuple #[.agg #[.int .i64 a, .int .i64 b], .int .i64 E]) ∧ Below W.heap.size W w') :=
    Lib.hid fun W h1 h2 => by rw [ha, hb, hE]; exact Flow_11 no rc cl dr si A n c B S F t W hm h2 (fun _ => h1)
  have HZ : Hid (E = 0 → n ≤ 64 ∧ n ≠ 0 ∧ rowsB S F n = true ∧ 0 ≤ t ∧ t ≤ 1048576) := Lib.hid fun h1 => by
    obtain ⟨y1, y2⟩ := flE_zero (hE.symm.trans h1)
    obtain ⟨y3, y4, _, y5⟩ := chk_zero y1
    exact ⟨y3, y4, y5, y2⟩
  have HZ2 : Hid (E = 0 → fLo S F n t = a ∧ fHi S F n t = b ∧ chk no rc cl dr si n S F = 0 ∧ headB no rc cl dr si n = true) := Lib.hid fun h1 => by
    obtain ⟨y1, y2⟩ := flE_zero (hE.symm.trans h1)
    rw [ha, hb, h1]
    exact ⟨rfl, rfl, y1, (chk_zero y1).2.2.1⟩
  obtain ⟨E2, hE2⟩ : ∃ E2, E2 = flE 0 s := ⟨_, rfl⟩
  obtain ⟨x2, hx2⟩ : ∃ x2, x2 = flR E2 (fLo S F n s) := ⟨_, rfl⟩
  obtain ⟨y2, hy2⟩ : ∃ y2, y2 = flR E2 (fHi S F n s) := ⟨_, rfl⟩
  have HXS : Hid (∀ W, chk no rc cl dr si n S F = 0 → RdP W B A n S F → B ≤ W.heap.size → Calls Try.prog 11 #[gv no rc cl dr si A n c, .int .i64 s] W fun e w' => e = .returned (.tuple #[.agg #[.int .i64 x2, .int .i64 y2], .int .i64 E2]) ∧ Below W.heap.size W w') :=
    Lib.hid fun W h0 h1 h2 => by rw [hx2, hy2, hE2, ← h0]; exact Flow_11 no rc cl dr si A n c B S F s W hm h2 (fun _ => h1)
  have HXM : Hid (∀ W A' N c' S' F', (∀ q, fLo S' F' N q = fLo S F n q ∧ fHi S' F' N q = fHi S F n q) → chk no rc cl dr si N S' F' = 0 → N ≤ 65 → RdP W W.heap.size A' N S' F' → Calls Try.prog 11 #[gv no rc cl dr si A' N c', .int .i64 s] W fun e w' => e = .returned (.tuple #[.agg #[.int .i64 x2, .int .i64 y2], .int .i64 E2]) ∧ Below W.heap.size W w') :=
    Lib.hid fun W A' N c' S' F' h h0 h1 h2 => by
      have := Flow_11 no rc cl dr si A' N c' W.heap.size S' F' s W (by omega) (Nat.le_refl _) (fun _ => h2)
      rw [h0, (h s).1, (h s).2, ← hE2] at this
      rw [hx2, hy2]
      exact this
  clear hE ha hb hE2 hx2 hy2
  unfold gv at HX HXS HXM ⊢
  go_enter Try.func8, Try.ntmps8
  go_wp2_with fail
  obtain ⟨u0, hu0⟩ : ∃ u0, u0 = w.alloc (.cells #[.int .i64 no, .int .i64 rc, .int .i64 cl, .int .i64 dr, .int .i64 si, .slice A n c] 24) := ⟨_, rfl⟩
  have G0 : Hid (Blk u0 w.heap.size 24 #[.int .i64 no, .int .i64 rc, .int .i64 cl, .int .i64 dr, .int .i64 si, .slice A n c]) := Lib.hid (hu0 ▸ Blk.new _ _ _)
  have B0 : Hid (Below w.heap.size w u0) := Lib.hid (hu0 ▸ below_alloc _ _)
  rw [← hu0]
  clear hu0
  have hs0 := G0.out.lt
  have hz0 := B0.out.size
  refine (sane_10 _).mono ?_
  rintro e v0 ⟨rfl, hb⟩
  have B1 := Lib.hid (B0.out.trans (hb.mono (by omega)))
  have G1 := Lib.hid (G0.out.below hb G0.out.lt)
  have hs1 := G1.out.lt
  have hz1 := B1.out.size
  clear hb B0 G0 hs0 hz0
  have cg0 : v0.cell? ⟨w.heap.size, 0, none⟩ = some (.int .i64 no) := G1.out.cell 0
  have cg1 : v0.cell? ⟨w.heap.size, 1, none⟩ = some (.int .i64 rc) := G1.out.cell 1
  have cg2 : v0.cell? ⟨w.heap.size, 2, none⟩ = some (.int .i64 cl) := G1.out.cell 2
  have cg3 : v0.cell? ⟨w.heap.size, 3, none⟩ = some (.int .i64 dr) := G1.out.cell 3
  have cg4 : v0.cell? ⟨w.heap.size, 4, none⟩ = some (.int .i64 si) := G1.out.cell 4
  have cg5 : v0.cell? ⟨w.heap.size, 5, none⟩ = some (.slice A n c) := G1.out.cell 5
  go_wp2_with fail
  refine (HX.out _ (HR.out.below (B1.out.mono hB)) (by omega)).mono ?_
  rintro e v1 ⟨rfl, hb⟩
  clear cg0 cg1 cg2 cg3 cg4 cg5
  have B2 := Lib.hid (B1.out.trans (hb.mono (by omega)))
  have G2 := Lib.hid (G1.out.below hb G1.out.lt)
  have hs2 := G2.out.lt
  have hz2 := B2.out.size
  clear hb B1 G1 hs1 hz1
  go_upto_region 4 with fail
  obtain ⟨bv1, hbx⟩ : ∃ zz, zz = v1.alloc (.cells #[.int .i64 a, .int .i64 b] 27) := ⟨_, rfl⟩
  rw [← hbx]
  have hb : Below v1.heap.size v1 bv1 := hbx ▸ below_alloc _ _
  have NX := Lib.hid (show Blk bv1 v1.heap.size 27 #[.int .i64 a, .int .i64 b] from hbx ▸ Blk.new _ _ _)
  clear hbx
  have B3 := Lib.hid (B2.out.trans (hb.mono (by omega)))
  have G3 := Lib.hid (G2.out.below hb G2.out.lt)
  have hs3 := G3.out.lt
  have hz3 := B3.out.size
  clear hb B2 G2 hs2 hz2
  have X3 := NX
  clear NX
  have cx0 : bv1.cell? ⟨v1.heap.size, 0, none⟩ = some (.int .i64 a) := X3.out.cell 0
  have cx1 : bv1.cell? ⟨v1.heap.size, 1, none⟩ = some (.int .i64 b) := X3.out.cell 1
  by_cases hE : E ≠ 0
  · have h1 : (E != 0) = true := by simpa using hE
    go_wp2_with fail
    go_ret
    exact ⟨rfl, B3.out⟩
  have hE := Decidable.not_not.1 hE
  have h1 : (E != 0) = false := by simpa using hE
  obtain ⟨z1, z2, z3, z4⟩ := HZ.out hE
  have HROW := Lib.hid z3
  clear z3
  obtain ⟨y4, y5, y6, y7⟩ := HZ2.out hE
  have HY4 := Lib.hid y4; have HY5 := Lib.hid y5; have HY6 := Lib.hid y6; have HY7 := Lib.hid y7
  clear y4 y5 y6 y7 HZ2
  by_cases hab : a ≠ b
  · have h2 : (a != b) = true := by simpa using hab
    go_wp2_with fail
    go_ret
    exact ⟨rfl, B3.out⟩
  have hab := Decidable.not_not.1 hab
  have h2 : (a != b) = false := by simpa using hab
  have hn0 : ((n : Int) == 0) = false := by rw [beq_eq_false_iff_ne]; omega
  have hn1 : (0 : Int) < n := by omega
  obtain ⟨b0, off, rfl, hbB, _, _⟩ := (HR.out).at_ (k := 0) (by omega)
  obtain ⟨m, rfl⟩ : ∃ m, n = m + 1 := ⟨n - 1, by omega⟩
  have hkz : ((m + 1 : Nat) : Int) - 1 = m := by omega
  have hmm : (m : Int) < (m + 1 : Nat) := by omega
  obtain ⟨q1, _⟩ := (HR.out.below (B3.out.mono hB)).here (k := 0) (by omega)
  simp only [Nat.zero_mul, Nat.add_zero] at q1
  obtain ⟨q3, _⟩ := (HR.out.below (B3.out.mono hB)).here (k := m) (by omega)
  have hbb : b0 < bv1.heap.size := by have := B3.out.size; omega
  have cg0 : bv1.cell? ⟨w.heap.size, 0, none⟩ = some (.int .i64 no) := G3.out.cell 0
  have cg1 : bv1.cell? ⟨w.heap.size, 1, none⟩ = some (.int .i64 rc) := G3.out.cell 1
  have cg2 : bv1.cell? ⟨w.heap.size, 2, none⟩ = some (.int .i64 cl) := G3.out.cell 2
  have cg3 : bv1.cell? ⟨w.heap.size, 3, none⟩ = some (.int .i64 dr) := G3.out.cell 3
  have cg4 : bv1.cell? ⟨w.heap.size, 4, none⟩ = some (.int .i64 si) := G3.out.cell 4
  have cg5 : bv1.cell? ⟨w.heap.size, 5, none⟩ = some (.slice (some ⟨b0, off, none⟩) (m + 1) c) := G3.out.cell 5
  by_cases hlo : t < S 0
  · go_wp2_with fail
    go_ret
    exact ⟨rfl, B3.out⟩
  by_cases hhi : S m < t
  · go_wp2_with fail
    go_ret
    exact ⟨rfl, B3.out⟩
  have hlo' : S 0 ≤ t := by omega
  have hhi' : t ≤ S m := by omega
  go_upto_region 8 with fail
  subst hab
  subst hE
  obtain ⟨w0, hw0⟩ : ∃ zz, zz = bv1.alloc (.cells #[.int .i64 no, .int .i64 rc, .int .i64 cl, .int .i64 dr, .int .i64 si, .slice none 0 0] 24) := ⟨_, rfl⟩
  rw [← hw0]
  have NM : Hid (Blk w0 bv1.heap.size 24 #[.int .i64 no, .int .i64 rc, .int .i64 cl, .int .i64 dr, .int .i64 si, .slice none 0 0]) := Lib.hid (hw0 ▸ Blk.new _ _ _)
  have hb : Below bv1.heap.size bv1 w0 := hw0 ▸ below_alloc _ _
  clear hw0 h1 h2 hn0 hn1 hkz hmm q1 q3 hbb cx0 cx1 hlo hhi
  obtain ⟨y1, y3⟩ := z4
  have hpl := plc_pos hlo' z2
  have hvb : v1.heap.size < bv1.heap.size := X3.out.lt
  have hgb : w.heap.size < bv1.heap.size := by omega
  clear cg0 cg1 cg2 cg3 cg4 cg5
  have B4 := Lib.hid (B3.out.trans (hb.mono (by omega)))
  have G4 := Lib.hid (G3.out.below hb G3.out.lt)
  have X4 := Lib.hid (X3.out.below hb X3.out.lt)
  have hs4 := G4.out.lt
  have hz4 := B4.out.size
  clear hb B3 G3 hs3 hz3 X3
  have hbz : bv1.heap.size < w0.heap.size := NM.out.lt
  have cg5 : w0.cell? ⟨w.heap.size, 5, none⟩ = some (.slice (some ⟨b0, off, none⟩) (m + 1) c) := G4.out.cell 5
  have HI0 : Hid (FurI no rc cl dr si bv1.heap.size (newS S (m + 1) t) (newF S F (m + 1) t a) w0 0 w0) := Lib.hid ⟨_, NM.out, World.ownsRow_nil _ _ _ _, Below.refl _ _⟩
  obtain ⟨i0, hi, hz0, hz1, hz2⟩ := info_parts info39
  have hb0 : b0 < bv1.heap.size := by omega
  go_wp2_with fail
  go_loopw [66] (fun i wr => ∃ j : Nat, j ≤ m + 1 ∧ i = .int .i64 j ∧ FurI no rc cl dr si bv1.heap.size (newS S (m + 1) t) (newF S F (m + 1) t a) w0 (newN S (m + 1) t j) wr) (fun i _ => (m + 1) - (intOf i).toNat)
  case atStart => exact ⟨0, Nat.zero_le _, rfl, by rw [newN_zero]; exact HI0.out⟩
  case round =>
    obtain ⟨j, hj, rfl, v, hI⟩ := hrel
    obtain ⟨A1, c1, hvv⟩ := own_form hI.2.1
    subst hvv
    have hMr := hI.1.lt
    have hR := (HR.out.below (B4.out.mono hB))
    have hRr : RdP wr B (some ⟨b0, off, none⟩) (m + 1) S F := hR.below (hI.2.2.mono (by have := B4.out.size; omega))
    have HRr := Lib.hid hRr
    have HBr := Lib.hid (B4.out.trans (hI.2.2.mono (by omega)))
    have hNl := newN_le (S := S) (n := m + 1) (t := t) j
    obtain ⟨N, hN⟩ : ∃ N, newN S (m + 1) t j = N := ⟨_, rfl⟩
    rw [hN] at hI hNl
    have HI := Lib.hid hI
    clear hR hRr hI
    by_cases hlt : j < m + 1
    · have hlt' : (j : Int) < m + 1 := by omega
      obtain ⟨q1, q2⟩ := HRr.out.here (k := j) hlt
      have hbr : b0 < wr.heap.size := by omega
      have hcase : (S j ≤ t ∧ newN S (m + 1) t (j + 1) = N + 1 ∧ (newS S (m + 1) t) N = S j ∧ (newF S F (m + 1) t a) N = F j) ∨
          (t < S j ∧ N ≠ 0 ∧ t ≤ (newS S (m + 1) t) (N - 1) ∧ newN S (m + 1) t (j + 1) = N + 1 ∧ (newS S (m + 1) t) N = S j ∧ (newF S F (m + 1) t a) N = F j) ∨
          (t < S j ∧ N ≠ 0 ∧ (newS S (m + 1) t) (N - 1) < t ∧ newN S (m + 1) t (j + 1) = N + 1 + 1 ∧ (newS S (m + 1) t) N = t ∧ (newF S F (m + 1) t a) N = a ∧ (newS S (m + 1) t) (N + 1) = S j ∧ (newF S F (m + 1) t a) (N + 1) = F j) := by
        by_cases hlow : j < plc S (m + 1) t
        · obtain ⟨e1, e2, e3, e4⟩ := step_low (F := F) (p := a) hlow
          rw [hN] at e1
          rw [e1]
          exact .inl ⟨idx_below S t (m + 1) j hlow, e2, e3, e4⟩
        · have hgt : t < S j := by
            have h1 := decide_eq_decide.1 (idx_test HROW.out t hlt)
            exact h1.2 (by show plc S (m + 1) t ≤ j; omega)
          by_cases hins : insB S (m + 1) t = true ∧ j = plc S (m + 1) t
          · obtain ⟨e1, e2, e3, e4, e5, e6, e7⟩ := step_put (F := F) (p := a) hins.1 hlo' z2
            rw [← hins.2] at e1 e2 e3 e4 e5 e6 e7
            rw [hN] at e1
            rw [e1]
            refine .inr (.inr ⟨hgt, by omega, e3, e2, e4, e5, e6, e7⟩)
          · obtain ⟨e1, e2, e3, e4, e5⟩ := step_high (F := F) (p := a) HROW.out hlo' z2 (by omega) hlt hins
            rw [hN] at e1 e2 e3 e4 e5
            exact .inr (.inl ⟨hgt, e2, e3, e1, e4, e5⟩)
      clear hN
      go_upto_region 11 with fail
      obtain ⟨wx, hwx⟩ : ∃ zz, zz = wr.alloc (.cells #[.int .i64 (S j), .int .i64 (F j)] 39) := ⟨_, rfl⟩
      rw [← hwx]
      have HX1 : Hid (Blk wx wr.heap.size 39 #[.int .i64 (S j), .int .i64 (F j)]) := Lib.hid (hwx ▸ Blk.new _ _ _)
      have HI1 : Hid (FurW no rc cl dr si bv1.heap.size (newS S (m + 1) t) (newF S F (m + 1) t a) w0 N (.slice A1 N c1) wx) := Lib.hid (hwx ▸ HI.out.alloc _)
      have hown := HI.out.own_new (Nat.le_refl _)
      have HOW := Lib.hid hown
      clear hwx q1 q2 hown
      have cx0 : wx.cell? ⟨wr.heap.size, 0, none⟩ = some (.int .i64 (S j)) := HX1.out.cell 0
      have cx1 : wx.cell? ⟨wr.heap.size, 1, none⟩ = some (.int .i64 (F j)) := HX1.out.cell 1
      have hxl := HX1.out.lt
      have cm5 : wx.cell? ⟨bv1.heap.size, 5, none⟩ = some (.slice A1 N c1) := HI1.out.1.cell 5
      have hml := HI1.out.1.lt
      rcases hcase with ⟨g1, g2, g3, g4⟩ | ⟨g1, g2, g3, g4, g5, g6⟩ | ⟨g1, g2, g3, g4, g5, g6, g7, g8⟩
      · have HG2 := Lib.hid g2; have HG3 := Lib.hid g3; have HG4 := Lib.hid g4
        clear g2 g3 g4
        have hqn : N ≤ 65 := by omega
        go_wp2_with (at_builtin; refine wpList_append_own_at _ rfl _ _ 22 rfl (bv1.heap.size + 1) 39 i0 (.agg #[.int .i64 0, .int .i64 0]) 2 16 Try.underlying22 hi hz0 hz1 hz2 rfl (by decide) (.slice A1 N c1) N (rowP (newS S (m + 1) t) (newF S F (m + 1) t a) N) rfl (HI1.out.2.1.alloc _) ⟨_, 0, none⟩ 1 1 [.int .i64 (S j), .int .i64 (F j)] rfl rfl (cell_two_new _ _ _ _) (by simp [Value.oneCell']) (by unfold maxLen; omega) (by omega) (by simp; omega) ?_; intro vv w3 hown3 hgrow3 _ _; obtain ⟨A3, c3, hvv⟩ := own_form hown3; subst hvv; have hm3 := (HI1.out.alloc (.cells #[.int .i64 (S j), .int .i64 (F j)] 39)).mid hgrow3; have cm3 : w3.cell? ⟨bv1.heap.size, 5, none⟩ = some (.slice A1 N c1) := hm3.cell 5; have cm3f := hm3.frozen 5; clear hm3)
        have HI3 : Hid (FurW no rc cl dr si bv1.heap.size (newS S (m + 1) t) (newF S F (m + 1) t a) w0 (N + 1) (.slice A3 (N + 1) c3) (w3.setCell ⟨bv1.heap.size, 5, none⟩ (.slice A3 (N + 1) c3))) := Lib.hid ((HI1.out.alloc _).push hgrow3 (by rw [HG3.out, HG4.out]; exact hown3))
        clear hown3 hgrow3 cm3 cm3f
        go_roundw
        case rel => exact ⟨j + 1, by omega, by go_num, _, by rw [HG2.out]; exact HI3.out⟩
        case measure => simp [intOf]; omega
      · have HG2 := Lib.hid g4; have HG3 := Lib.hid g5; have HG4 := Lib.hid g6
        clear g4 g5 g6
        obtain ⟨l, rfl⟩ : ∃ l, N = l + 1 := ⟨N - 1, by omega⟩
        rw [Nat.add_sub_cancel] at g3
        obtain ⟨g, cap, hv, hgl, cl0⟩ := HI1.out.last rfl
        obtain ⟨rfl, rfl⟩ : A1 = some ⟨g, 0, none⟩ ∧ c1 = cap := by injection hv with e1 e2 e3; exact ⟨e1, e3⟩
        clear hv
        have hl0 : (((l + 1 : Nat) : Int) == 0) = false := by rw [beq_eq_false_iff_ne]; omega
        have hl3 : ((l : Int) + 1 == 0) = false := by rw [beq_eq_false_iff_ne]; omega
        have hg3 : decide (newS S (m + 1) t l < t) = false := by simpa using g3
        have hl1 : ((l + 1 : Nat) : Int) - 1 = l := by omega
        have hl2 : (l : Int) < (l + 1 : Nat) := by omega
        have hqn : (l + 1) ≤ 65 := by omega
        go_wp2_with (at_builtin; refine wpList_append_own_at _ rfl _ _ 22 rfl (bv1.heap.size + 1) 39 i0 (.agg #[.int .i64 0, .int .i64 0]) 2 16 Try.underlying22 hi hz0 hz1 hz2 rfl (by decide) (.slice (some ⟨g, 0, none⟩) (l + 1) c1) (l + 1) (rowP (newS S (m + 1) t) (newF S F (m + 1) t a) (l + 1)) rfl (HI1.out.2.1.alloc _) ⟨_, 0, none⟩ 1 1 [.int .i64 (S j), .int .i64 (F j)] rfl rfl (cell_two_new _ _ _ _) (by simp [Value.oneCell']) (by unfold maxLen; omega) (by omega) (by simp; omega) ?_; intro vv w3 hown3 hgrow3 _ _; obtain ⟨A3, c3, hvv⟩ := own_form hown3; subst hvv; have hm3 := (HI1.out.alloc (.cells #[.int .i64 (S j), .int .i64 (F j)] 39)).mid hgrow3; have cm3 : w3.cell? ⟨bv1.heap.size, 5, none⟩ = some (.slice (some ⟨g, 0, none⟩) (l + 1) c1) := hm3.cell 5; have cm3f := hm3.frozen 5; clear hm3)
        have HI3 : Hid (FurW no rc cl dr si bv1.heap.size (newS S (m + 1) t) (newF S F (m + 1) t a) w0 ((l + 1) + 1) (.slice A3 ((l + 1) + 1) c3) (w3.setCell ⟨bv1.heap.size, 5, none⟩ (.slice A3 ((l + 1) + 1) c3))) := Lib.hid ((HI1.out.alloc _).push hgrow3 (by rw [HG3.out, HG4.out]; exact hown3))
        clear hown3 hgrow3 cm3 cm3f
        go_roundw
        case rel => exact ⟨j + 1, by omega, by go_num, _, by rw [HG2.out]; exact HI3.out⟩
        case measure => simp [intOf]; omega
      · have HG2 := Lib.hid g4; have HG3 := Lib.hid g5; have HG4 := Lib.hid g6; have HG5 := Lib.hid g7; have HG6 := Lib.hid g8
        clear g4 g5 g6 g7 g8
        obtain ⟨l, rfl⟩ : ∃ l, N = l + 1 := ⟨N - 1, by omega⟩
        rw [Nat.add_sub_cancel] at g3
        obtain ⟨g, cap, hv, hgl, cl0⟩ := HI1.out.last rfl
        obtain ⟨rfl, rfl⟩ : A1 = some ⟨g, 0, none⟩ ∧ c1 = cap := by injection hv with e1 e2 e3; exact ⟨e1, e3⟩
        clear hv
        have hl0 : (((l + 1 : Nat) : Int) == 0) = false := by rw [beq_eq_false_iff_ne]; omega
        have hl3 : ((l : Int) + 1 == 0) = false := by rw [beq_eq_false_iff_ne]; omega
        have hg3 : decide (newS S (m + 1) t l < t) = true := by simpa using g3
        have hl1 : ((l + 1 : Nat) : Int) - 1 = l := by omega
        have hl2 : (l : Int) < (l + 1 : Nat) := by omega
        have hxv : wx.cell? ⟨v1.heap.size, 0, none⟩ = some (.int .i64 a) := ((X4.out.below HI1.out.2.2 hvb).cell 0)
        have hvx : v1.heap.size < wx.heap.size := by omega
        go_upto_region 13 with (at_builtin; refine wpList_append_own_at _ rfl _ _ 22 rfl (bv1.heap.size + 1) 39 i0 (.agg #[.int .i64 0, .int .i64 0]) 2 16 Try.underlying22 hi hz0 hz1 hz2 rfl (by decide) (.slice (some ⟨g, 0, none⟩) (l + 1) c1) (l + 1) (rowP (newS S (m + 1) t) (newF S F (m + 1) t a) (l + 1)) rfl (HI1.out.2.1.alloc _) ⟨_, 0, none⟩ 1 1 [.int .i64 t, .int .i64 a] rfl rfl (cell_two_new _ _ _ _) (by simp [Value.oneCell']) (by unfold maxLen; omega) (by omega) (by simp; omega) ?_; intro vv w2 hown3 hgrow3 _ _; obtain ⟨A2, c2, hvv⟩ := own_form hown3; subst hvv; have hm3 := (HI1.out.alloc (.cells #[.int .i64 t, .int .i64 a] 39)).mid hgrow3; have cm2 : w2.cell? ⟨bv1.heap.size, 5, none⟩ = some (.slice (some ⟨g, 0, none⟩) (l + 1) c1) := hm3.cell 5; have cm2f := hm3.frozen 5; clear hm3)
        have HI2 : Hid (FurW no rc cl dr si bv1.heap.size (newS S (m + 1) t) (newF S F (m + 1) t a) w0 (l + 1 + 1) (.slice A2 (l + 1 + 1) c2) (w2.setCell ⟨bv1.heap.size, 5, none⟩ (.slice A2 (l + 1 + 1) c2))) := Lib.hid ((HI1.out.alloc _).push hgrow3 (by rw [HG3.out, HG4.out]; exact hown3))
        have HX2 : Hid (Blk (w2.setCell ⟨bv1.heap.size, 5, none⟩ (.slice A2 (l + 1 + 1) c2)) wr.heap.size 39 #[.int .i64 (S j), .int .i64 (F j)]) := Lib.hid (Blk.far ((hgrow3.block _ (by simp; omega) (fun e => HOW.out e.symm)).trans (HX1.out.alloc _)) (by simp; omega) _)
        clear hown3 hgrow3 cm2 cm2f cx0 cx1 cm5 cl0 hxv hvx
        generalize w2.setCell ⟨bv1.heap.size, 5, none⟩ (.slice A2 (l + 1 + 1) c2) = wy at HI2 HX2 ⊢
        have cx0 : wy.cell? ⟨wr.heap.size, 0, none⟩ = some (.int .i64 (S j)) := HX2.out.cell 0
        have cx1 : wy.cell? ⟨wr.heap.size, 1, none⟩ = some (.int .i64 (F j)) := HX2.out.cell 1
        have hxl2 := HX2.out.lt
        have cm5 : wy.cell? ⟨bv1.heap.size, 5, none⟩ = some (.slice A2 (l + 1 + 1) c2) := HI2.out.1.cell 5
        have hml2 := HI2.out.1.lt
        have hqn : (l + 1 + 1) ≤ 65 := by omega
        go_wp2_with (at_builtin; refine wpList_append_own_at _ rfl _ _ 22 rfl (bv1.heap.size + 1) 39 i0 (.agg #[.int .i64 0, .int .i64 0]) 2 16 Try.underlying22 hi hz0 hz1 hz2 rfl (by decide) (.slice A2 (l + 1 + 1) c2) (l + 1 + 1) (rowP (newS S (m + 1) t) (newF S F (m + 1) t a) (l + 1 + 1)) rfl (HI2.out.2.1.alloc _) ⟨_, 0, none⟩ 1 1 [.int .i64 (S j), .int .i64 (F j)] rfl rfl (cell_two_new _ _ _ _) (by simp [Value.oneCell']) (by unfold maxLen; omega) (by omega) (by simp; omega) ?_; intro vv w3 hown3 hgrow3 _ _; obtain ⟨A3, c3, hvv⟩ := own_form hown3; subst hvv; have hm3 := (HI2.out.alloc (.cells #[.int .i64 (S j), .int .i64 (F j)] 39)).mid hgrow3; have cm3 : w3.cell? ⟨bv1.heap.size, 5, none⟩ = some (.slice A2 (l + 1 + 1) c2) := hm3.cell 5; have cm3f := hm3.frozen 5; clear hm3)
        have HI3 : Hid (FurW no rc cl dr si bv1.heap.size (newS S (m + 1) t) (newF S F (m + 1) t a) w0 ((l + 1 + 1) + 1) (.slice A3 ((l + 1 + 1) + 1) c3) (w3.setCell ⟨bv1.heap.size, 5, none⟩ (.slice A3 ((l + 1 + 1) + 1) c3))) := Lib.hid ((HI2.out.alloc _).push hgrow3 (by rw [HG5.out, HG6.out]; exact hown3))
        clear hown3 hgrow3 cm3 cm3f
        go_roundw
        case rel => exact ⟨j + 1, by omega, by go_num, _, by rw [HG2.out]; exact HI3.out⟩
        case measure => simp [intOf]; omega
    · obtain rfl : j = m + 1 := by omega
      obtain ⟨t1, t2⟩ := new_table HROW.out hlo' z2 HY4.out HY5.out
      rw [hN] at t1 t2
      have HT1 := Lib.hid t1
      have HT2 := Lib.hid t2
      have hNg := newN_ge (S := S) (n := m + 1) (t := t) (m + 1)
      rw [hN] at hNg
      clear t1 t2
      have HTR : Hid (RdP wr wr.heap.size A1 N (newS S (m + 1) t) (newF S F (m + 1) t a)) := Lib.hid (Rd.of_own HI.out.2.1 (fun j hj => rowP_at _ _ _ _ hj))
      have GM := HI.out.1
      have GG := G4.out.below HI.out.2.2 hgb
      have cm0 : wr.cell? ⟨bv1.heap.size, 0, none⟩ = some (.int .i64 no) := GM.cell 0
      have cm1 : wr.cell? ⟨bv1.heap.size, 1, none⟩ = some (.int .i64 rc) := GM.cell 1
      have cm2 : wr.cell? ⟨bv1.heap.size, 2, none⟩ = some (.int .i64 cl) := GM.cell 2
      have cm3 : wr.cell? ⟨bv1.heap.size, 3, none⟩ = some (.int .i64 dr) := GM.cell 3
      have cm4 : wr.cell? ⟨bv1.heap.size, 4, none⟩ = some (.int .i64 si) := GM.cell 4
      have cm5 : wr.cell? ⟨bv1.heap.size, 5, none⟩ = some (.slice A1 N c1) := GM.cell 5
      have HGM := Lib.hid GM
      have HGG := Lib.hid GG
      clear GM GG
      by_cases h65 : 64 < N
      · have HV := Lib.hid (chk_big (no := no) (rc := rc) (cl := cl) (dr := dr) (si := si) (S := (newS S (m + 1) t)) (F := (newF S F (m + 1) t a)) h65)
        have hm63 : m = 63 := by omega
        go_wp2_with fail
        refine (check_13 no rc cl dr si A1 N c1 wr.heap.size (newS S (m + 1) t) (newF S F (m + 1) t a) _ (by omega) (Nat.le_refl _) (fun _ => HTR.out)).mono ?_
        rintro e w5 ⟨rfl, hb5⟩
        rw [HV.out]
        have cg5 : w5.cell? ⟨w.heap.size, 5, none⟩ = some (.slice (some ⟨b0, off, none⟩) (m + 1) c) := (HGG.out.below hb5 (by omega)).cell 5
        have hm64 : (64 : Int) ≤ (m + 1 : Nat) := by omega
        have HB5 := Lib.hid (HBr.out.trans (hb5.mono HBr.out.size))
        clear hb5 cm0 cm1 cm2 cm3 cm4 cm5 hm63
        go_wp2_with fail
        go_ret
        exact ⟨ret_bool (decide_eq_true (by omega)), HB5.out⟩
      · have HV : Hid (chk no rc cl dr si N (newS S (m + 1) t) (newF S F (m + 1) t a) = 0) := Lib.hid (chk_ok h65 (by have := HY7.out; simp only [headB, Bool.and_eq_true, decide_eq_true_eq] at this ⊢; exact ⟨this.1, this.2.1, this.2.2.1, this.2.2.2.1, by omega⟩) HT1.out)
        go_wp2_with fail
        refine (check_13 no rc cl dr si A1 N c1 wr.heap.size (newS S (m + 1) t) (newF S F (m + 1) t a) _ (by omega) (Nat.le_refl _) (fun _ => HTR.out)).mono ?_
        rintro e w5 ⟨rfl, hb5⟩
        rw [HV.out]
        have HB5 := Lib.hid (HBr.out.trans (hb5.mono HBr.out.size))
        have HG5 := Lib.hid (HGG.out.below hb5 (by omega))
        have HM5 := Lib.hid (HGM.out.below hb5 hMr)
        have HR5 := Lib.hid (HTR.out.below hb5)
        have hs5 := hb5.size
        clear hb5 cm0 cm1 cm2 cm3 cm4 cm5
        have cg0 : w5.cell? ⟨w.heap.size, 0, none⟩ = some (.int .i64 no) := HG5.out.cell 0
        have cg1 : w5.cell? ⟨w.heap.size, 1, none⟩ = some (.int .i64 rc) := HG5.out.cell 1
        have cg2 : w5.cell? ⟨w.heap.size, 2, none⟩ = some (.int .i64 cl) := HG5.out.cell 2
        have cg3 : w5.cell? ⟨w.heap.size, 3, none⟩ = some (.int .i64 dr) := HG5.out.cell 3
        have cg4 : w5.cell? ⟨w.heap.size, 4, none⟩ = some (.int .i64 si) := HG5.out.cell 4
        have cg5 : w5.cell? ⟨w.heap.size, 5, none⟩ = some (.slice (some ⟨b0, off, none⟩) (m + 1) c) := HG5.out.cell 5
        go_wp2_with fail
        refine (HXS.out _ HY6.out (HR.out.below (HB5.out.mono hB)) (by omega)).mono ?_
        rintro e w6 ⟨rfl, hb6⟩
        go_upto_region 18 with fail
        obtain ⟨w7, hbx⟩ : ∃ zz, zz = w6.alloc (.cells #[.int .i64 x2, .int .i64 y2] 27) := ⟨_, rfl⟩
        rw [← hbx]
        have HP7 : Hid (Blk w7 w6.heap.size 27 #[.int .i64 x2, .int .i64 y2]) := Lib.hid (hbx ▸ Blk.new _ _ _)
        have hb7 : Below w5.heap.size w5 w7 := hb6.trans (by rw [hbx]; exact Below.mono (below_alloc _ _) hb6.size)
        have hs6 := hb6.size
        have HB7 := Lib.hid (HB5.out.trans (hb7.mono HB5.out.size))
        have HM7 := Lib.hid (HM5.out.below hb7 (by omega))
        have HR7 := Lib.hid (HR5.out.below (hb7.mono hs5))
        have hs7 := hb7.size
        have hs67 := HP7.out.lt
        clear hb6 hb7 hbx cg0 cg1 cg2 cg3 cg4 cg5
        have cm0 : w7.cell? ⟨bv1.heap.size, 0, none⟩ = some (.int .i64 no) := HM7.out.cell 0
        have cm1 : w7.cell? ⟨bv1.heap.size, 1, none⟩ = some (.int .i64 rc) := HM7.out.cell 1
        have cm2 : w7.cell? ⟨bv1.heap.size, 2, none⟩ = some (.int .i64 cl) := HM7.out.cell 2
        have cm3 : w7.cell? ⟨bv1.heap.size, 3, none⟩ = some (.int .i64 dr) := HM7.out.cell 3
        have cm4 : w7.cell? ⟨bv1.heap.size, 4, none⟩ = some (.int .i64 si) := HM7.out.cell 4
        have cm5 : w7.cell? ⟨bv1.heap.size, 5, none⟩ = some (.slice A1 N c1) := HM7.out.cell 5
        go_wp2_with fail
        refine (HXM.out _ A1 N c1 _ _ HT2.out HV.out (by omega) (HR7.out.mono (by omega))).mono ?_
        rintro e w8 ⟨rfl, hb8⟩
        go_upto_region 19 with fail
        obtain ⟨w9, hbx⟩ : ∃ zz, zz = w8.alloc (.cells #[.int .i64 x2, .int .i64 y2] 27) := ⟨_, rfl⟩
        rw [← hbx]
        have HQ9 : Hid (Blk w9 w8.heap.size 27 #[.int .i64 x2, .int .i64 y2]) := Lib.hid (hbx ▸ Blk.new _ _ _)
        have hb9 : Below w7.heap.size w7 w9 := hb8.trans (by rw [hbx]; exact Below.mono (below_alloc _ _) hb8.size)
        have HP9 := Lib.hid (HP7.out.below hb9 hs67)
        have HB9 := Lib.hid (HB7.out.trans (hb9.mono HB7.out.size))
        have HM9 := Lib.hid (HM7.out.below hb9 (by omega))
        have HR9 := Lib.hid (HR7.out.below (hb9.mono (by omega)))
        have hs9 := hb9.size
        clear hb8 hb9 hbx cm0 cm1 cm2 cm3 cm4 cm5
        have cm0 : w9.cell? ⟨bv1.heap.size, 0, none⟩ = some (.int .i64 no) := HM9.out.cell 0
        have cm1 : w9.cell? ⟨bv1.heap.size, 1, none⟩ = some (.int .i64 rc) := HM9.out.cell 1
        have cm2 : w9.cell? ⟨bv1.heap.size, 2, none⟩ = some (.int .i64 cl) := HM9.out.cell 2
        have cm3 : w9.cell? ⟨bv1.heap.size, 3, none⟩ = some (.int .i64 dr) := HM9.out.cell 3
        have cm4 : w9.cell? ⟨bv1.heap.size, 4, none⟩ = some (.int .i64 si) := HM9.out.cell 4
        have cm5 : w9.cell? ⟨bv1.heap.size, 5, none⟩ = some (.slice A1 N c1) := HM9.out.cell 5
        go_wp2_with fail
        refine (check_13 no rc cl dr si A1 N c1 wr.heap.size (newS S (m + 1) t) (newF S F (m + 1) t a) _ (by omega) (by omega) (fun _ => HR9.out)).mono ?_
        rintro e w10 ⟨rfl, hb10⟩
        rw [HV.out]
        have HB10 := Lib.hid (HB9.out.trans (hb10.mono HB9.out.size))
        have p0 : w10.cell? ⟨w6.heap.size, 0, none⟩ = some (.int .i64 x2) := (HP9.out.below hb10 HP9.out.lt).cell 0
        have p1 : w10.cell? ⟨w6.heap.size, 1, none⟩ = some (.int .i64 y2) := (HP9.out.below hb10 HP9.out.lt).cell 1
        have p2 : w10.cell? ⟨w8.heap.size, 0, none⟩ = some (.int .i64 x2) := (HQ9.out.below hb10 HQ9.out.lt).cell 0
        have p3 : w10.cell? ⟨w8.heap.size, 1, none⟩ = some (.int .i64 y2) := (HQ9.out.below hb10 HQ9.out.lt).cell 1
        clear hb10 cm0 cm1 cm2 cm3 cm4 cm5
        go_wp2_with fail
        go_ret
        exact ⟨rfl, HB10.out⟩
end Go.Proofs.Ytfddlodfmmnanaa
