/- The release is the least one that keeps. Plain law; no program in sight. -/
import Derived.Test.YtnmocdfogdcliaaKeep
namespace Go.Proofs.Ytnmocdfogdcliaa
open Go.RowKit

/-- with one less, the greatest inflow leaves no robust store -/
theorem least_ok {cp fl : Int} {n : Nat} {lo hi dm ou sp : Nat → Int} (hg : Good cp fl n lo hi dm ou sp) {t : Nat} (ht : t < n) {x r : Int} (hx : ri3 (rb cp fl n lo hi dm ou sp t).1 x (rb cp fl n lo hi dm ou sp t).2 = true)
    (hr : r = max (dm t) (x - kpH cp hi sp t (rb cp fl n lo hi dm ou sp (t + 1)))) (hd : dm t < r) (ho : nxO cp sp t x (r - 1) (hi t) = true) : ri3 (rb cp fl n lo hi dm ou sp (t + 1)).1 (nxN cp x (r - 1) (hi t)) (rb cp fl n lo hi dm ou sp (t + 1)).2 = false := by
  obtain ⟨h1, h2, h3, h4, h5⟩ := (rob_iff hg ht).1 hx
  obtain ⟨⟨g1, g2, g3⟩, ⟨g4, g5, g6⟩, g7, g8⟩ := hg.2.2.2 t ht
  have hok := rb_ok hg (t + 1) (by omega)
  unfold nxO at ho
  rw [decide_eq_true_iff] at ho
  cases h : ri3 (rb cp fl n lo hi dm ou sp (t + 1)).1 (nxN cp x (r - 1) (hi t)) (rb cp fl n lo hi dm ou sp (t + 1)).2
  · rfl
  · exfalso
    rw [ri3_iff] at h
    generalize rb cp fl n lo hi dm ou sp (t + 1) = R at *
    obtain ⟨a, b⟩ := R
    simp only at *
    have hab : 0 ≤ a ∧ b ≤ cp := by
      rcases hok with e | e
      · injection e with e1 e2; omega
      · simp only at e; omega
    unfold nxS nxN at *
    simp only [kpL, kpH] at h2 h3 h5 hr
    by_cases hb : b = cp
    · rw [if_pos hb] at *; omega
    · rw [if_neg hb] at *; omega
end Go.Proofs.Ytnmocdfogdcliaa
