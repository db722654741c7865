/- Releases that keep, inflows that spoil. Plain laws; no program in sight. -/
import Derived.Test.YtnmocdfogdcliaaSpoil
namespace Go.Proofs.Ytnmocdfogdcliaa
open Go.RowKit
section
variable {cp fl : Int} {n : Nat} {lo hi dm ou sp : Nat → Int}
/-- what a robust store is -/
theorem rob_iff (_hg : Good cp fl n lo hi dm ou sp) {t : Nat} (ht : t < n) {x : Int} : ri3 (rb cp fl n lo hi dm ou sp t).1 x (rb cp fl n lo hi dm ou sp t).2 = true ↔
    (rb cp fl n lo hi dm ou sp (t + 1)).1 ≤ (rb cp fl n lo hi dm ou sp (t + 1)).2 ∧ kpL lo t (rb cp fl n lo hi dm ou sp (t + 1)) ≤ kpH cp hi sp t (rb cp fl n lo hi dm ou sp (t + 1)) ∧
      kpL lo t (rb cp fl n lo hi dm ou sp (t + 1)) + dm t ≤ x ∧ x ≤ cp ∧ x ≤ kpH cp hi sp t (rb cp fl n lo hi dm ou sp (t + 1)) + ou t := by
  rw [rb_step ht, ri3_iff]
  generalize rb cp fl n lo hi dm ou sp (t + 1) = R
  unfold bef
  by_cases h1 : R.2 < R.1
  · rw [if_pos h1]; simp only; omega
  rw [if_neg h1]
  by_cases h2 : kpH cp hi sp t R < kpL lo t R
  · rw [if_pos h2]; simp only; omega
  rw [if_neg h2]
  by_cases h3 : min cp (kpH cp hi sp t R + ou t) < kpL lo t R + dm t
  · rw [if_pos h3]; simp only; omega
  rw [if_neg h3]
  simp only
  omega
/-- the release keeps the stores robust with every inflow of the range -/
theorem keep_ok (hg : Good cp fl n lo hi dm ou sp) {t : Nat} (ht : t < n) {x q r : Int} (hx : ri3 (rb cp fl n lo hi dm ou sp t).1 x (rb cp fl n lo hi dm ou sp t).2 = true) (hq : lo t ≤ q ∧ q ≤ hi t)
    (hr : r = max (dm t) (x - kpH cp hi sp t (rb cp fl n lo hi dm ou sp (t + 1)))) :
    (dm t ≤ r ∧ r ≤ ou t ∧ r ≤ x) ∧ nxS cp x r q ≤ sp t ∧ ri3 (rb cp fl n lo hi dm ou sp (t + 1)).1 (nxN cp x r q) (rb cp fl n lo hi dm ou sp (t + 1)).2 = true ∧ 0 ≤ nxN cp x r q ∧ nxN cp x r q ≤ cp := by
  obtain ⟨h1, h2, h3, h4, h5⟩ := (rob_iff hg ht).1 hx
  obtain ⟨⟨g1, g2, g3⟩, ⟨g4, g5, g6⟩, g7, g8⟩ := hg.2.2.2 t ht
  have hok := rb_ok hg (t + 1) (by omega)
  rw [ri3_iff]
  generalize rb cp fl n lo hi dm ou sp (t + 1) = R at *
  obtain ⟨a, b⟩ := R
  simp only at *
  have hab : 0 ≤ a ∧ b ≤ cp := by
    rcases hok with e | e
    · injection e with e1 e2; omega
    · simp only at e; omega
  unfold nxS nxN
  simp only [kpL, kpH] at h2 h3 h5 hr
  by_cases hb : b = cp
  · rw [if_pos hb] at *; omega
  · rw [if_neg hb] at *; omega
/-- where the store is not robust, the inflow that spoils leaves no robust store -/
theorem lose_ok (hg : Good cp fl n lo hi dm ou sp) {t : Nat} (ht : t < n) {x r : Int} (hx : ri3 (rb cp fl n lo hi dm ou sp t).1 x (rb cp fl n lo hi dm ou sp t).2 = false) (hxc : x ≤ cp) (ha : dm t ≤ r ∧ r ≤ ou t ∧ r ≤ x)
    (hok : nxO cp sp t x r (if spK cp fl n lo hi dm ou sp t x r = true then hi t else lo t) = true) :
    ri3 (rb cp fl n lo hi dm ou sp (t + 1)).1 (nxN cp x r (if spK cp fl n lo hi dm ou sp t x r = true then hi t else lo t)) (rb cp fl n lo hi dm ou sp (t + 1)).2 = false := by
  cases hk : spK cp fl n lo hi dm ou sp t x r
  · rw [hk] at hok
    simp only [Bool.false_eq_true, if_false] at hok ⊢
    unfold spK at hk
    rw [hok, Bool.true_and] at hk
    exact hk
  · rw [hk] at hok
    simp only [if_true] at hok ⊢
    unfold spK at hk
    rw [Bool.and_eq_true] at hk
    obtain ⟨k1, k2⟩ := hk
    cases h3 : ri3 (rb cp fl n lo hi dm ou sp (t + 1)).1 (nxN cp x r (hi t)) (rb cp fl n lo hi dm ou sp (t + 1)).2
    · rfl
    · exfalso
      have hno : ¬ ri3 (rb cp fl n lo hi dm ou sp t).1 x (rb cp fl n lo hi dm ou sp t).2 = true := by rw [hx]; simp
      apply hno
      rw [rob_iff hg ht]
      obtain ⟨⟨g1, g2, g3⟩, ⟨g4, g5, g6⟩, g7, g8⟩ := hg.2.2.2 t ht
      have hcp := hg.2.1
      have hok2 := rb_ok hg (t + 1) (by omega)
      unfold nxO at k1 hok
      rw [decide_eq_true_iff] at k1 hok
      rw [ri3_iff] at k2 h3
      generalize rb cp fl n lo hi dm ou sp (t + 1) = R at *
      obtain ⟨a, b⟩ := R
      simp only at *
      have hab : 0 ≤ a ∧ b ≤ cp := by
        rcases hok2 with e | e
        · injection e with e1 e2; omega
        · simp only at e; omega
      unfold nxS nxN at *
      simp only [kpL, kpH]
      by_cases hb : b = cp
      · rw [if_pos hb]; omega
      · rw [if_neg hb]; omega
end
end Go.Proofs.Ytnmocdfogdcliaa
