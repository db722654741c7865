/- One period made wider, and small reservoirs. Plain laws; no program in sight. -/
import Derived.Test.YtnmocdfogdcliaaFirmModel
import Derived.Test.YtnmocdfogdcliaaKeep
namespace Go.Proofs.Ytnmocdfogdcliaa
open Go.RowKit

/-- one number of a list changed -/
def upd (f : Nat → Int) (i : Nat) (v : Int) (j : Nat) : Int := if j = i then v else f j
theorem upd_same (f : Nat → Int) (i : Nat) (v : Int) : upd f i v i = v := if_pos rfl
theorem upd_off {f : Nat → Int} {i j : Nat} {v : Int} (h : j ≠ i) : upd f i v j = f j := if_neg h
/-- a course with one period made wider is right, and no robust store is lost -/
theorem wider_ok {cp st fl : Int} {n i : Nat} {lo hi dm ou sp : Nat → Int} {a b c d e : Int} (hc : chkE cp st fl n lo hi dm ou sp = 0) (hi' : i < n) (ha : 0 ≤ a) (hb : 0 ≤ b) (hd0 : 0 ≤ c) (hd : 0 ≤ d) (he : 0 ≤ e) :
    chkE cp st fl n (upd lo i (min (hi i) (lo i + a))) (upd hi i (max (min (hi i) (lo i + a)) (hi i - b))) (upd dm i (max 0 (dm i - c))) (upd ou i (min 1099511627776 (ou i + d))) (upd sp i (min 1099511627776 (sp i + e))) = 0 ∧
      ∀ t, sub2 (rb cp fl n lo hi dm ou sp t) (rb cp fl n (upd lo i (min (hi i) (lo i + a))) (upd hi i (max (min (hi i) (lo i + a)) (hi i - b))) (upd dm i (max 0 (dm i - c))) (upd ou i (min 1099511627776 (ou i + d))) (upd sp i (min 1099511627776 (sp i + e))) t) := by
  obtain ⟨c1, c2, c3⟩ := chk_parts hc
  have h3 := okP_iff.1 (c3 i hi')
  have hz : chkE cp st fl n (upd lo i (min (hi i) (lo i + a))) (upd hi i (max (min (hi i) (lo i + a)) (hi i - b))) (upd dm i (max 0 (dm i - c))) (upd ou i (min 1099511627776 (ou i + d))) (upd sp i (min 1099511627776 (sp i + e))) = 0 := chk_of c1 c2 fun j hj => by
    by_cases h : j = i
    · subst h
      rw [okP_iff]
      simp only [upd_same]
      omega
    · have := okP_iff.1 (c3 j hj)
      rw [okP_iff]
      simp only [upd_off h]
      exact this
  refine ⟨hz, fun t => rb_mono (good_of hz) (fun j hj => ?_) t⟩
  by_cases h : j = i
  · subst h
    simp only [upd_same]
    omega
  · simp only [upd_off h]
    omega
/-- the robust ranges of a right course: none is (1, 0) -/
theorem sub_le {r s : Int × Int} (h : sub2 r s) (hr : r.1 ≤ r.2) : ¬ r.1 < s.1 ∧ ¬ s.2 < r.2 := by
  have := h hr
  omega
/-- a store is robust exactly if some release keeps it with every inflow of the range -/
theorem game_ok {cp fl : Int} {n : Nat} {lo hi dm ou sp : Nat → Int} (hg : Good cp fl n lo hi dm ou sp) {t : Nat} (ht : t < n) {x : Int} (hx : x ≤ cp) :
    ri3 (rb cp fl n lo hi dm ou sp t).1 x (rb cp fl n lo hi dm ou sp t).2 = true ↔ ∃ r, dm t ≤ r ∧ r ≤ min (ou t) x ∧ ∀ q, lo t ≤ q → q ≤ hi t → x - r + q ≤ cp + sp t ∧ ri3 (rb cp fl n lo hi dm ou sp (t + 1)).1 (min (x - r + q) cp) (rb cp fl n lo hi dm ou sp (t + 1)).2 = true := by
  obtain ⟨⟨g1, g2, g3⟩, ⟨g4, g5, g6⟩, g7, g8⟩ := hg.2.2.2 t ht
  constructor
  · intro h
    obtain ⟨r, hr⟩ : ∃ r, r = max (dm t) (x - kpH cp hi sp t (rb cp fl n lo hi dm ou sp (t + 1))) := ⟨_, rfl⟩
    have h0 := (keep_ok (q := lo t) hg ht h ⟨Int.le_refl _, g2⟩ hr).1
    refine ⟨r, h0.1, by omega, fun q h1 h2 => ?_⟩
    obtain ⟨_, k2, k3, _⟩ := keep_ok (q := q) hg ht h ⟨h1, h2⟩ hr
    unfold nxS at k2
    unfold nxN at k3
    exact ⟨by omega, k3⟩
  · rintro ⟨r, h1, h2, h3⟩
    obtain ⟨a1, a2⟩ := h3 (lo t) (Int.le_refl _) g2
    obtain ⟨b1, b2⟩ := h3 (hi t) g2 (Int.le_refl _)
    rw [rob_iff hg ht]
    have hok := rb_ok hg (t + 1) (by omega)
    rw [ri3_iff] at a2 b2
    generalize rb cp fl n lo hi dm ou sp (t + 1) = R at *
    obtain ⟨a, b⟩ := R
    simp only at *
    have hab : 0 ≤ a ∧ b ≤ cp := by
      rcases hok with e | e
      · injection e with e1 e2; omega
      · simp only at e; omega
    simp only [kpL, kpH]
    by_cases hb : b = cp
    · rw [if_pos hb]; omega
    · rw [if_neg hb]; omega
end Go.Proofs.Ytnmocdfogdcliaa
