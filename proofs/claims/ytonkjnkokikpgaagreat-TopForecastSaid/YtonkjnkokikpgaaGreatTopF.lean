/- The top: contract of awake39. -/
import Derived.Test.YtonkjnkokikpgaaGreatTopD
import Derived.Test.YtonkjnkokikpgaaGreatKeep2
namespace Go.Proofs.YtonkjnkokikpgaaGreat
open Go.RowKit

/-- one forecast -/
def past1 (b : Int) (rA : Option Addr) (rn rc : Nat) (sA : Option Addr) (sn sc : Nat) (f : Nat → Int × Int) (v : Nat → Int) : PastF := ⟨fun _ => b, fun _ => rA, fun _ => rn, fun _ => rc, fun _ => sA, fun _ => sn, fun _ => sc, fun _ => f, fun _ => v⟩
theorem past1_rd {w : World} {g : Nat} {b : Int} {rA sA : Option Addr} {rn rc sn sc : Nat} {f : Nat → Int × Int} {v : Nat → Int} (h : Blk w g 49 #[.int .i64 b, .slice rA rn rc, .slice sA sn sc]) (h1 : Rd w w.heap.size rA (rn * 2) (rsc f)) (h2 : Rd w w.heap.size sA sn (fun i => .int .i64 (v i))) (h3 : rn ≤ 100) (h4 : sn ≤ 100) :
    PastRd w w.heap.size (some ⟨g, 0, none⟩) 1 (past1 b rA rn rc sA sn sc f v) := by
  refine ⟨h.rd _ fun j hj => ?_, fun j _ => ⟨⟨h1, show rn ≤ 9223372036854775807 by omega⟩, h2, show sn ≤ 9223372036854775807 by omega⟩⟩
  rcases j with _ | _ | _ | j
  · rfl
  · rfl
  · rfl
  · exact absurd hj (by simp)
/-- the ensemble of awake39 -/
def awkE (b0 b1 : Nat) : EnsF := ⟨fun j => if j = 0 then some ⟨b0, 0, none⟩ else some ⟨b1, 0, none⟩, fun _ => 1, fun _ => 1, fun j _ => if j = 0 then 3 else 5⟩
theorem awkE_rd {w : World} {b0 b1 b2 : Nat} (h0 : Blk w b0 3 #[.int .i64 3]) (h1 : Blk w b1 3 #[.int .i64 5]) (h2 : Blk w b2 36 #[.slice (some ⟨b0, 0, none⟩) 1 1, .slice (some ⟨b1, 0, none⟩) 1 1]) : EnsRd w w.heap.size (some ⟨b2, 0, none⟩) 2 (awkE b0 b1) := by
  refine ⟨h2.rd _ fun j hj => ?_, fun j hj => ⟨?_, show 1 ≤ 9223372036854775807 by omega⟩⟩
  · rcases j with _ | _ | j
    · rfl
    · rfl
    · exact absurd hj (by simp)
  · rcases j with _ | j
    · exact h0.rd _ fun j hj => by
        rcases j with _ | j
        · rfl
        · exact absurd hj (by simp)
    · exact h1.rd _ fun j hj => by
        rcases j with _ | j
        · rfl
        · exact absurd hj (by simp)
theorem awk_full (b0 b1 : Nat) : EFull 1 0 2 (awkE b0 b1) := by
  refine ⟨⟨by omega, by simp [awkE], fun _ _ => rfl⟩, by omega, by omega, fun j _ i _ => ?_⟩
  show 0 ≤ (if j = 0 then (3 : Int) else 5) ∧ (if j = 0 then (3 : Int) else 5) ≤ 1073741824
  split <;> omega
theorem awk_good {rA sA : Option Addr} : DGood 1 (past1 1 rA 1 1 sA 1 1 (fun _ => (4, 4)) (fun _ => 6)) 1 0 1 := by
  refine ⟨⟨by omega, fun j _ => ?_⟩, by omega, by omega, by omega⟩
  simp [past1]
theorem awk_bounds {rA sA : Option Addr} {b0 b1 : Nat} {f0 : Nat → Int × Int} {mg : Int} (h1 : LoHi (fun i => (awkE b0 b1).mv i 0) 2 (f0 0).1 (f0 0).2) (h2 : kpP 1 (past1 1 rA 1 1 sA 1 1 (fun _ => (4, 4)) (fun _ => 6)) 1 0 1 mg = true) (h3 : InDist 1 (past1 1 rA 1 1 sA 1 1 (fun _ => (4, 4)) (fun _ => 6)) 1 mg) : wdF f0 mg 0 = (1, 7) := by
  have e0 : (f0 0).1 = 3 := by
    obtain ⟨⟨⟨i, hi, e⟩, h⟩, _⟩ := h1
    have h4 : (f0 0).1 ≤ 3 := h 0 (by omega)
    have h5 : (f0 0).1 = if i = 0 then (3 : Int) else 5 := e
    split at h5 <;> omega
  have e1 : (f0 0).2 = 5 := by
    obtain ⟨_, ⟨i, hi, e⟩, h⟩ := h1
    have h4 : 5 ≤ (f0 0).2 := h 1 (by omega)
    have h5 : (f0 0).2 = if i = 0 then (3 : Int) else 5 := e
    split at h5 <;> omega
  have e2 : mg = 2 := by
    have ht : trP (past1 1 rA 1 1 sA 1 1 (fun _ => (4, 4)) (fun _ => 6)) 1 1 = [(0, 0, 2)] := by
      simp [trP, trI, past1, dst]
      decide
    rcases h3 with h | ⟨j, hj, h⟩
    · exfalso
      subst h
      unfold kpP dlF at h2
      rw [ht] at h2
      revert h2
      decide
    · rw [ht] at hj
      have hj0 : j = 0 := by simpa using hj
      subst hj0
      rw [h]
      unfold dlF
      rw [ht]
      rfl
  unfold wdF
  rw [e0, e1, e2]
  decide

set_option maxRecDepth 100000 in
set_option maxHeartbeats 4000000 in
theorem awake_4 (w : World) : Calls Tryz.prog 4 #[] w fun e w' => e = .returned (.bool true) ∧ Below w.heap.size w w' := by
  go_enter Tryz.func4, Tryz.ntmps4
  go_upto_region 3 with fail
  obtain ⟨W, hW⟩ : ∃ zz, zz = (((((((w.alloc (.cells #[.int .i64 3] 3)).alloc (.cells #[.int .i64 5] 3)).alloc (.cells #[.slice (some ⟨w.heap.size, 0, none⟩) 1 1, .slice (some ⟨w.heap.size + 1, 0, none⟩) 1 1] 36)).alloc
    (.cells #[.int .i64 1, .int .i64 0, .slice (some ⟨w.heap.size + 1 + 1, 0, none⟩) 2 2] 40)).alloc (.cells #[.int .i64 4, .int .i64 4] 53)).alloc (.cells #[.int .i64 6] 3)).alloc
      (.cells #[.int .i64 1, .slice (some ⟨w.heap.size + 1 + 1 + 1 + 1, 0, none⟩) 1 1, .slice (some ⟨w.heap.size + 1 + 1 + 1 + 1 + 1, 0, none⟩) 1 1] 49)) := ⟨_, rfl⟩
  have H0 : Hid (Blk W w.heap.size 3 #[.int .i64 3]) := Lib.hid (by rw [hW]; exact ((((((Blk.new _ _ _).alloc _).alloc _).alloc _).alloc _).alloc _).alloc _)
  have H1 : Hid (Blk W (w.heap.size + 1) 3 #[.int .i64 5]) := Lib.hid (by rw [hW]; exact (((((Blk.new' (by simp)).alloc _).alloc _).alloc _).alloc _).alloc _)
  have H2 : Hid (Blk W (w.heap.size + 1 + 1) 36 #[.slice (some ⟨w.heap.size, 0, none⟩) 1 1, .slice (some ⟨w.heap.size + 1, 0, none⟩) 1 1]) := Lib.hid (by rw [hW]; exact ((((Blk.new' (by simp)).alloc _).alloc _).alloc _).alloc _)
  have H3 : Hid (Blk W (w.heap.size + 1 + 1 + 1) 40 #[.int .i64 1, .int .i64 0, .slice (some ⟨w.heap.size + 1 + 1, 0, none⟩) 2 2]) := Lib.hid (by rw [hW]; exact (((Blk.new' (by simp)).alloc _).alloc _).alloc _)
  have H4 : Hid (Blk W (w.heap.size + 1 + 1 + 1 + 1) 53 #[.int .i64 4, .int .i64 4]) := Lib.hid (by rw [hW]; exact ((Blk.new' (by simp)).alloc _).alloc _)
  have H5 : Hid (Blk W (w.heap.size + 1 + 1 + 1 + 1 + 1) 3 #[.int .i64 6]) := Lib.hid (by rw [hW]; exact (Blk.new' (by simp)).alloc _)
  have H6 : Hid (Blk W (w.heap.size + 1 + 1 + 1 + 1 + 1 + 1) 49 #[.int .i64 1, .slice (some ⟨w.heap.size + 1 + 1 + 1 + 1, 0, none⟩) 1 1, .slice (some ⟨w.heap.size + 1 + 1 + 1 + 1 + 1, 0, none⟩) 1 1]) := Lib.hid (by rw [hW]; exact Blk.new' (by simp))
  have HL : Hid (Below w.heap.size w W) := Lib.hid (by
    rw [hW]
    exact ((((((below_alloc w _).alloc (by simp) _).alloc (by simp; omega) _).alloc (by simp; omega) _).alloc (by simp; omega) _).alloc (by simp; omega) _).alloc (by simp; omega) _)
  rw [← hW]
  clear hW
  have hzw := HL.out.size
  generalize w.heap.size + 1 + 1 + 1 + 1 + 1 + 1 = b6 at *
  generalize w.heap.size + 1 + 1 + 1 + 1 + 1 = b5 at *
  generalize w.heap.size + 1 + 1 + 1 + 1 = b4 at *
  generalize w.heap.size + 1 + 1 + 1 = b3 at *
  generalize w.heap.size + 1 + 1 = b2 at *
  generalize w.heap.size + 1 = b1 at *
  have HE := Lib.hid (awkE_rd H0.out H1.out H2.out)
  have HP : Hid (PastRd W W.heap.size (some ⟨b6, 0, none⟩) 1 (past1 1 (some ⟨b4, 0, none⟩) 1 1 (some ⟨b5, 0, none⟩) 1 1 (fun _ => (4, 4)) (fun _ => 6))) := Lib.hid (past1_rd H6.out (H4.out.rd _ (fun j hj => by
      rcases j with _ | _ | j
      · rfl
      · rfl
      · exact absurd hj (by simp))) (H5.out.rd _ (fun j hj => by
      rcases j with _ | j
      · rfl
      · exact absurd hj (by simp))) (by omega) (by omega))
  have t0 : W.cell? ⟨b3, 0, none⟩ = some (.int .i64 1) := H3.out.cell 0
  have t1 : W.cell? ⟨b3, 1, none⟩ = some (.int .i64 0) := H3.out.cell 1
  have t2 : W.cell? ⟨b3, 2, none⟩ = some (.slice (some ⟨b2, 0, none⟩) 2 2) := H3.out.cell 2
  have t2' : W.cell? ⟨b3, 1 + 1, none⟩ = some (.slice (some ⟨b2, 0, none⟩) 2 2) := H3.out.cell 2
  go_wp2_with fail
  refine (bounds_6 1 0 0 0 0 1 (some ⟨b2, 0, none⟩) (some ⟨b6, 0, none⟩) 2 2 1 1 W.heap.size (awkE w.heap.size b1) (past1 1 (some ⟨b4, 0, none⟩) 1 1 (some ⟨b5, 0, none⟩) 1 1 (fun _ => (4, 4)) (fun _ => 6)) W (by omega) (by omega) (by omega) (Nat.le_refl _) HE.out HP.out).mono ?_
  rintro e w1 ⟨⟨D, L, dc, E, f, rfl, -, hown, -, hex⟩, hb⟩
  obtain ⟨rfl, hL, f0, mg, hlh, hf, hk, hi⟩ := hex (awk_full _ _) rfl rfl awk_good
  have hL1 : L = 1 := hL
  subst hL1
  have hf0 : f 0 = (1, 7) := by
    rw [hf]
    exact awk_bounds (hlh 0 (by omega)) hk hi
  have HL1 := Lib.hid (HL.out.trans (hb.mono hzw))
  have HO := Lib.hid hown
  have HF := Lib.hid hf0
  clear hb hex hlh hk hi hL hf hf0 hown t0 t1 t2 t2' HE HP H0 H1 H2 H3 H4 H5 H6 HL
  obtain ⟨rb, ro, rfl, _, r0, r1⟩ := rng_at (rowR_rd HO.out) (show 0 < 1 by omega)
  rw [HF.out] at r0 r1
  have q0 : w1.cell? ⟨rb, ro, none⟩ = some (.int .i64 1) := by simpa using r0
  have q1 : w1.cell? ⟨rb, ro + 1, none⟩ = some (.int .i64 7) := by simpa using r1
  clear r0 r1
  have hz1 := HL1.out.size
  go_upto_region 7 with fail
  obtain ⟨w2, hw2⟩ : ∃ zz, zz = (w1.alloc (.cells #[.int .i64 1, .int .i64 7, .int .i64 4, .int .i64 4, .int .i64 0] 55)).alloc (.cells #[.int .i64 20, .int .i64 5, .int .i64 2, .slice (some ⟨w1.heap.size, 0, none⟩) 1 1] 30) := ⟨_, rfl⟩
  have HA2 : Hid (Blk w2 w1.heap.size 55 #[.int .i64 1, .int .i64 7, .int .i64 4, .int .i64 4, .int .i64 0]) := Lib.hid (hw2 ▸ (Blk.new _ _ _).alloc _)
  have HC2 : Hid (Blk w2 (w1.heap.size + 1) 30 #[.int .i64 20, .int .i64 5, .int .i64 2, .slice (some ⟨w1.heap.size, 0, none⟩) 1 1]) := Lib.hid (hw2 ▸ Blk.new' (by simp))
  have HL2 : Hid (Below w.heap.size w w2) := Lib.hid (hw2 ▸ (HL1.out.alloc hz1 _).alloc (by simp; omega) _)
  have HO2 : Hid (w2.ownsRow W.heap.size 53 2 (.slice (some ⟨rb, ro, none⟩) 1 dc) 1 (rowR f 1)) := Lib.hid (hw2 ▸ (HO.out.alloc _).alloc _)
  rw [← hw2]
  clear hw2 q0 q1 HO HL1
  generalize w1.heap.size + 1 = cb at *
  generalize w1.heap.size = ab at *
  have HRP : Hid (Rd w2 w2.heap.size (some ⟨ab, 0, none⟩) (1 * 5) (psc (fun _ => 1) (fun _ => 7) (fun _ => 4) (fun _ => 4) (fun _ => 0))) := Lib.hid (HA2.out.rd _ (fun j hj => by
    rcases j with _ | _ | _ | _ | _ | j
    · rfl
    · rfl
    · rfl
    · rfl
    · rfl
    · exact absurd hj (by simp)))
  have c0 : w2.cell? ⟨cb, 0, none⟩ = some (.int .i64 20) := HC2.out.cell 0
  have c1 : w2.cell? ⟨cb, 1, none⟩ = some (.int .i64 5) := HC2.out.cell 1
  have c2 : w2.cell? ⟨cb, 2, none⟩ = some (.int .i64 2) := HC2.out.cell 2
  have c3 : w2.cell? ⟨cb, 3, none⟩ = some (.slice (some ⟨ab, 0, none⟩) 1 1) := HC2.out.cell 3
  have c1' : w2.cell? ⟨cb, 0 + 1, none⟩ = some (.int .i64 5) := c1
  have c2' : w2.cell? ⟨cb, 1 + 1, none⟩ = some (.int .i64 2) := c2
  have c3' : w2.cell? ⟨cb, 2 + 1, none⟩ = some (.slice (some ⟨ab, 0, none⟩) 1 1) := c3
  go_wp2_with fail
  refine (Release_17 (PA := some ⟨ab, 0, none⟩) (n := 1) (pc := 1) (cp := 20) (st := 5) (fl := 2) (lo := fun _ => 1) (hi := fun _ => 7) (dm := fun _ => 4) (ou := fun _ => 4) (sp := fun _ => 0) w2.heap.size 0 5 w2 (by omega) (Nat.le_refl _) HRP.out).mono ?_
  rintro e w3 ⟨rfl, hb⟩
  rw [show relV 20 5 2 1 (fun _ => 1) (fun _ => 7) (fun _ => 4) (fun _ => 4) (fun _ => 0) 0 5 = 4 by decide, show relE 20 5 2 1 (fun _ => 1) (fun _ => 7) (fun _ => 4) (fun _ => 4) (fun _ => 0) 0 5 = 0 by decide]
  have HL3 := Lib.hid (HL2.out.trans (hb.mono HL2.out.size))
  have HO3 := Lib.hid (own_below HO2.out hb)
  have hz3 := HL3.out.size
  clear hb c0 c1 c2 c3 c1' c2' c3' HRP HA2 HC2 HL2 HO2
  go_upto_region 9 with fail
  obtain ⟨w4, hw4⟩ : ∃ zz, zz = (w3.alloc (.cells #[.int .i64 9] 3)).alloc (.cells #[.int .i64 1, .slice (some ⟨rb, ro, none⟩) 1 dc, .slice (some ⟨w3.heap.size, 0, none⟩) 1 1] 49) := ⟨_, rfl⟩
  have HA4 : Hid (Blk w4 w3.heap.size 3 #[.int .i64 9]) := Lib.hid (hw4 ▸ (Blk.new _ _ _).alloc _)
  have HC4 : Hid (Blk w4 (w3.heap.size + 1) 49 #[.int .i64 1, .slice (some ⟨rb, ro, none⟩) 1 dc, .slice (some ⟨w3.heap.size, 0, none⟩) 1 1]) := Lib.hid (hw4 ▸ Blk.new' (by simp))
  have HL4 : Hid (Below w.heap.size w w4) := Lib.hid (hw4 ▸ (HL3.out.alloc hz3 _).alloc (by simp; omega) _)
  have HO4 : Hid (w4.ownsRow W.heap.size 53 2 (.slice (some ⟨rb, ro, none⟩) 1 dc) 1 (rowR f 1)) := Lib.hid (hw4 ▸ (HO3.out.alloc _).alloc _)
  rw [← hw4]
  clear hw4 HO3 HL3
  generalize w3.heap.size + 1 = cb4 at *
  generalize w3.heap.size = ab4 at *
  have hz4 := HL4.out.size
  have HP4 : Hid (PastRd w4 w4.heap.size (some ⟨cb4, 0, none⟩) 1 (past1 1 (some ⟨rb, ro, none⟩) 1 dc (some ⟨ab4, 0, none⟩) 1 1 f (fun _ => 9))) := Lib.hid (past1_rd HC4.out (rowR_rd HO4.out) (HA4.out.rd _ (fun j hj => by
    rcases j with _ | j
    · rfl
    · exact absurd hj (by simp))) (by omega) (by omega))
  have HFO : Hid (Calls Tryz.prog 15 #[.slice (some ⟨w4.heap.size, 0, none⟩) 1 1, .slice (some ⟨cb4, 0, none⟩) 1 1, .int .i64 0] (w4.alloc (.cells #[.int .i64 1, .int .i64 0, .int .i64 100, .int .i64 3] 65)) fun e w' => e = .returned (.tuple #[.int .i64 6, .int .i64 0]) ∧ Below (w4.alloc (.cells #[.int .i64 1, .int .i64 0, .int .i64 100, .int .i64 3] 65)).heap.size (w4.alloc (.cells #[.int .i64 1, .int .i64 0, .int .i64 100, .int .i64 3] 65)) w') := Lib.hid (by
    have h1 := Forfeit_15 (some ⟨w4.heap.size, 0, none⟩) (some ⟨cb4, 0, none⟩) 1 1 1 1 (w4.alloc (.cells #[.int .i64 1, .int .i64 0, .int .i64 100, .int .i64 3] 65)).heap.size 0 ⟨fun _ => 1, fun _ => 0, fun _ => 100, fun _ => 3⟩ (past1 1 (some ⟨rb, ro, none⟩) 1 dc (some ⟨ab4, 0, none⟩) 1 1 f (fun _ => 9)) (fun _ => 0) (w4.alloc (.cells #[.int .i64 1, .int .i64 0, .int .i64 100, .int .i64 3] 65)) (by omega) (Nat.le_refl _)
      (rd_stake1 w4 1 0 100 3) ⟨by omega, fun i _ => ⟨by simp, by simp, by simp, by simp⟩, fun i hi => absurd hi (by omega)⟩
      ((HP4.out.below (below_alloc _ _)).mono (by simp)) ⟨by omega, fun j _ => ⟨by simp [past1], by simp [past1], rfl, fun i hi => by
        obtain rfl : i = 0 := by simpa [past1] using hi
        show 0 ≤ (f 0).1 ∧ (f 0).1 ≤ (f 0).2 ∧ (f 0).2 ≤ 1099511627776
        rw [HF.out]
        simp, fun i _ => by simp [past1]⟩⟩ (fun a b h1 h2 => absurd h2 (by omega)) (fun i _ => ⟨Nat.zero_lt_one, rfl, by simp [past1]⟩)
    have h2 : ffV ⟨fun _ => 1, fun _ => 0, fun _ => 100, fun _ => 3⟩ (past1 1 (some ⟨rb, ro, none⟩) 1 dc (some ⟨ab4, 0, none⟩) 1 1 f (fun _ => 9)) (fun _ => 0) 0 = 6 := by
      show min 100 (3 * max (max ((f 0).1 - 9) (9 - (f 0).2)) 0) = (6 : Int)
      rw [HF.out]
      decide
    rw [h2] at h1
    exact h1)
  go_wp2_with fail
  refine HFO.out.mono ?_
  rintro e w5 ⟨rfl, hb⟩
  have HL5 := Lib.hid ((HL4.out.alloc hz4 (.cells #[.int .i64 1, .int .i64 0, .int .i64 100, .int .i64 3] 65)).trans (hb.mono (by simp; omega)))
  clear hb
  go_wp2_with fail
  go_ret
  exact ⟨rfl, HL5.out⟩
end Go.Proofs.YtonkjnkokikpgaaGreat
