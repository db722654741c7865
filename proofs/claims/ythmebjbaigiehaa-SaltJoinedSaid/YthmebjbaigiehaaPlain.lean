/- Plain laws of what the functions on salt compute. No program in sight. -/
import Derived.Test.YthmebjbaigiehaaTurns
namespace Go.Proofs.Ythmebjbaigiehaa
open Go.RowKit

theorem div_lo {a n : Int} (hn : 0 < n) : a / n * n ≤ a := Int.ediv_mul_le a (by omega)
theorem div_hi {a n : Int} (hn : 0 < n) : a < a / n * n + n := by
  have h := Int.emod_add_mul_ediv a n
  have h2 := Int.emod_lt_of_pos a hn
  rw [Int.mul_comm] at h
  omega
theorem div_mono {a b n : Int} (hn : 0 < n) (h : a ≤ b) : a / n ≤ b / n := Int.ediv_le_ediv hn h
theorem share_le {S k L : Int} (hL : 0 < L) (hS : 0 ≤ S) (hk : k ≤ L) : S * k / L ≤ S := by
  apply Int.ediv_le_of_le_mul hL
  exact Int.mul_le_mul_of_nonneg_left hk hS

/-! ### Split -/
section
variable {L S : Int} {n : Nat} {P : Nat → Int}
theorem splE_zero (h : splE L S n P = 0) : n ≤ 64 ∧ rt L S = true ∧ (∀ k, k < n → 0 ≤ P k ∧ P k ≤ 1073741824) ∧ sm P n = L := by
  unfold splE at h
  split at h
  · omega
  split at h
  · omega
  split at h
  · rename_i h1 h2 h3
    exact ⟨by omega, by simpa using h2, limB_at n h3.1, h3.2⟩
  · omega
theorem splS_sum (hL : 0 < L) : ∀ k, sm (splS L S P) k = S * sm P k / L
  | 0 => by simp [sm]
  | k + 1 => by
    have e : splS L S P k = S * sm P (k + 1) / L - S * sm P k / L := if_pos hL
    show sm (splS L S P) k + splS L S P k = _
    rw [splS_sum hL k, e]
    omega
theorem splS_sum0 (hL : ¬ 0 < L) : ∀ k, sm (splS L S P) k = 0
  | 0 => rfl
  | k + 1 => by
    have e : splS L S P k = 0 := if_neg hL
    show sm (splS L S P) k + splS L S P k = _
    rw [splS_sum0 hL k, e]
    omega
theorem splS_at (h : splE L S n P = 0) {k : Nat} (hk : k < n) : 0 ≤ splS L S P k ∧ splS L S P k ≤ S ∧ (P k = 0 → splS L S P k = 0) := by
  obtain ⟨_, hr, hP, hs⟩ := splE_zero h
  obtain ⟨_, ⟨hS, _⟩, _⟩ := rt_iff.1 hr
  by_cases hL : 0 < L
  · have e : splS L S P k = S * sm P (k + 1) / L - S * sm P k / L := if_pos hL
    have h0 : 0 ≤ sm P k := sm_nonneg k fun j hj => (hP j (by omega)).1
    have h1 : sm P k ≤ sm P (k + 1) := by have := (hP k hk).1; simp only [sm]; omega
    have h2 : sm P (k + 1) ≤ L := hs ▸ sm_mono n (by omega) fun j hj => (hP j hj).1
    have a1 : S * sm P k / L ≤ S * sm P (k + 1) / L := div_mono hL (Int.mul_le_mul_of_nonneg_left h1 hS)
    have a2 := share_le hL hS h2
    have a3 : 0 ≤ S * sm P k / L := Int.ediv_nonneg (Int.mul_nonneg hS h0) (by omega)
    refine ⟨by omega, by omega, fun hz => ?_⟩
    have : sm P (k + 1) = sm P k := by simp only [sm]; omega
    rw [e, this]; omega
  · have e : splS L S P k = 0 := if_neg hL
    rw [e]; exact ⟨by omega, hS, fun _ => rfl⟩
theorem split_salt (h : splE L S n P = 0) : sm (splS L S P) n = S := by
  obtain ⟨_, hr, hP, hs⟩ := splE_zero h
  obtain ⟨_, _, h0⟩ := rt_iff.1 hr
  by_cases hL : 0 < L
  · rw [splS_sum hL, hs]; exact Int.mul_ediv_cancel _ (by omega)
  · rw [splS_sum0 hL]; omega
theorem split_mix (h : splE L S n P = 0) : mixE n P (splS L S P) = 0 := by
  obtain ⟨hn, hr, hP, hs⟩ := splE_zero h
  obtain ⟨hL, hS, _⟩ := rt_iff.1 hr
  rw [mixE, if_neg (by omega), if_pos]
  refine ⟨rtN_of n fun k hk => ?_, ?_, ?_⟩
  · have h1 := hP k hk
    have h2 := splS_at h hk
    refine rt_iff.2 ⟨h1, ⟨h2.1, by omega⟩, ?_⟩
    by_cases hz : P k = 0
    · exact .inr (h2.2.2 hz)
    · exact .inl (by omega)
  · rw [hs]; exact inB_iff.2 hL
  · rw [split_salt h]; exact inB_iff.2 hS
theorem split_near (h : splE L S n P = 0) {k : Nat} (hk : k < n) (hL : 0 < L) : P k ≤ L ∧ -L < splS L S P k * L - S * P k ∧ splS L S P k * L - S * P k < L := by
  obtain ⟨_, hr, hP, hs⟩ := splE_zero h
  have e : splS L S P k = S * sm P (k + 1) / L - S * sm P k / L := if_pos hL
  have h0 : 0 ≤ sm P k := sm_nonneg k fun j hj => (hP j (by omega)).1
  have h2 : sm P (k + 1) ≤ L := hs ▸ sm_mono n (by omega) fun j hj => (hP j hj).1
  have h1 : sm P (k + 1) = sm P k + P k := rfl
  have a1 := div_lo (a := S * sm P (k + 1)) hL
  have a2 := div_hi (a := S * sm P (k + 1)) hL
  have a3 := div_lo (a := S * sm P k) hL
  have a4 := div_hi (a := S * sm P k) hL
  have e2 : splS L S P k * L = S * sm P (k + 1) / L * L - S * sm P k / L * L := by rw [e, Int.sub_mul]
  have e3 : S * sm P (k + 1) = S * sm P k + S * P k := by rw [h1, Int.mul_add]
  exact ⟨by omega, by omega, by omega⟩
end

/-! ### Lose -/
theorem losE_zero {L S ev se : Int} (h : losE L S ev se = 0) : rt L S = true ∧ (0 ≤ ev ∧ ev ≤ L) ∧ (0 ≤ se ∧ se ≤ L - ev) ∧ (0 < L - ev ∨ S = 0) := by
  unfold losE at h
  split at h
  · omega
  split at h
  · rename_i h1 h2
    split at h
    · rename_i h3
      exact ⟨by simpa using h1, ⟨h2.1, h2.2.1⟩, ⟨h2.2.2.1, h2.2.2.2⟩, h3⟩
    · omega
  · omega
theorem losG_range {L S ev se : Int} (h : losE L S ev se = 0) : 0 ≤ losG L S ev se ∧ losG L S ev se ≤ S := by
  obtain ⟨hr, h1, h2, _⟩ := losE_zero h
  obtain ⟨_, ⟨hS, _⟩, _⟩ := rt_iff.1 hr
  unfold losG
  split
  · rename_i hp
    exact ⟨Int.ediv_nonneg (Int.mul_nonneg hS h2.1) (by omega), share_le hp hS h2.2⟩
  · exact ⟨by omega, hS⟩
theorem losG_near {L S ev se : Int} (h : 0 < L - ev) : losG L S ev se * (L - ev) ≤ S * se ∧ S * se < losG L S ev se * (L - ev) + (L - ev) := by
  rw [losG, if_pos h]
  exact ⟨div_lo h, div_hi h⟩

/-! ### Leach -/
theorem lchE_zero {H A L S : Int} (h : lchE H A L S = 0) : (1 ≤ H ∧ H ≤ 1073741824) ∧ (0 ≤ A ∧ A ≤ 1073741824) ∧ rt L S = true ∧ H + L ≤ 1073741824 ∧ A + S ≤ 1073741824 := by
  unfold lchE at h
  split at h
  · assumption
  · omega
theorem lchE_cases (H A L S : Int) : lchE H A L S = 0 ∨ lchE H A L S = 430 := by
  unfold lchE; split <;> simp
theorem lchE_of {H A L S : Int} (h : (1 ≤ H ∧ H ≤ 1073741824) ∧ (0 ≤ A ∧ A ≤ 1073741824) ∧ rt L S = true ∧ H + L ≤ 1073741824 ∧ A + S ≤ 1073741824) : lchE H A L S = 0 := if_pos h
theorem lch_facts {H A L S : Int} (h : lchE H A L S = 0) : 0 ≤ lchD H A L S ∧ 0 ≤ lchA H A L S ∧ lchD H A L S * (H + L) ≤ (A + S) * L ∧ (A + S) * L < lchD H A L S * (H + L) + (H + L) := by
  obtain ⟨h1, h2, h3, h4, h5⟩ := lchE_zero h
  obtain ⟨⟨h6, _⟩, ⟨h7, _⟩, _⟩ := rt_iff.1 h3
  have hp : 0 < H + L := by omega
  have a1 : 0 ≤ lchD H A L S := Int.ediv_nonneg (Int.mul_nonneg (by omega) h6) (by omega)
  have a2 : lchD H A L S ≤ A + S := share_le hp (by omega) (by omega)
  exact ⟨a1, by unfold lchA; omega, div_lo hp, div_hi hp⟩
/-- water that is not saltier -/
theorem lchA_le {H A L S : Int} (h : lchE H A L S = 0) (hs : S * H ≤ A * L) : lchA H A L S ≤ A := by
  obtain ⟨h1, h2, h3, h4, h5⟩ := lchE_zero h
  obtain ⟨⟨h6, _⟩, ⟨h7, _⟩, _⟩ := rt_iff.1 h3
  have hp : 0 < H + L := by omega
  have : S ≤ (A + S) * L / (H + L) := by
    refine (Int.le_ediv_iff_mul_le hp).2 ?_
    rw [Int.mul_add, Int.add_mul]; omega
  unfold lchA lchD; omega
theorem lchA_mono {H A A' L S : Int} (h : lchE H A L S = 0) (_h0 : 0 ≤ A') (hA : A' ≤ A) : lchA H A' L S ≤ lchA H A L S := by
  obtain ⟨h1, h2, h3, h4, h5⟩ := lchE_zero h
  obtain ⟨⟨h6, _⟩, ⟨h7, _⟩, _⟩ := rt_iff.1 h3
  have hp : 0 < H + L := by omega
  have e : (A + S) * L = (A' + S) * L + (A - A') * L := by rw [← Int.add_mul]; congr 1; omega
  have e2 : (A - A') * L ≤ (A - A') * (H + L) := Int.mul_le_mul_of_nonneg_left (by omega) (by omega)
  have e3 : (A + S) * L / (H + L) ≤ (A' + S) * L / (H + L) + (A - A') := by
    rw [← Int.add_mul_ediv_right _ _ (by omega : H + L ≠ 0)]
    exact div_mono hp (by omega)
  unfold lchA lchD; omega
theorem lchE_less {H A A' L S : Int} (h : lchE H A L S = 0) (h0 : 0 ≤ A') (hA : A' ≤ A) : lchE H A' L S = 0 := by
  obtain ⟨h1, h2, h3, h4, h5⟩ := lchE_zero h
  exact lchE_of ⟨h1, ⟨h0, by omega⟩, h3, h4, by omega⟩

/-! ### Turns -/
section
variable {H L S lim : Int}
theorem trn_le : ∀ (k : Nat) (A : Int) (n : Nat), trn H L S lim k A = some n → n ≤ k
  | 0, A, n, h => by
    unfold trn at h
    split at h
    · simp at h; omega
    · cases h
  | k + 1, A, n, h => by
    unfold trn at h
    split at h
    · simp at h; omega
    split at h
    · cases e : trn H L S lim k (lchA H A L S) with
      | none => rw [e] at h; cases h
      | some m =>
        rw [e] at h
        have := trn_le k _ m e
        simp at h; omega
    · cases h
theorem trn_mono {lim' : Int} (hl : lim ≤ lim') : ∀ (k : Nat) (A A' : Int) (n : Nat), 0 ≤ A' → A' ≤ A → trn H L S lim k A = some n → ∃ m, trn H L S lim' k A' = some m ∧ m ≤ n
  | 0, A, A', n, h0, hA, h => by
    unfold trn at h ⊢
    split at h
    · simp at h; exact ⟨0, by rw [if_pos (by omega)], by omega⟩
    · cases h
  | k + 1, A, A', n, h0, hA, h => by
    by_cases hs : A' ≤ lim'
    · exact ⟨0, trn_stop hs _, by omega⟩
    unfold trn at h
    split at h
    · omega
    split at h
    · rename_i h1 h2
      cases e : trn H L S lim k (lchA H A L S) with
      | none => rw [e] at h; cases h
      | some m =>
        rw [e] at h
        have h3 := lchE_less h2 h0 hA
        obtain ⟨q, hq, hqm⟩ := trn_mono hl k (lchA H A L S) (lchA H A' L S) m (lch_facts h3).2.1 (lchA_mono h2 h0 hA) e
        refine ⟨q + 1, ?_, by simp at h; omega⟩
        rw [trn_step hs h3, hq]; rfl
    · cases h
end
end Go.Proofs.Ythmebjbaigiehaa
