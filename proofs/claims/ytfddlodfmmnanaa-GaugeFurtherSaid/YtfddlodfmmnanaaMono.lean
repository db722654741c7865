/- Flows rise with the stages; the stages of a flow. Plain laws; a right table. -/
import Derived.Test.YtfddlodfmmnanaaRefFlow
namespace Go.Proofs.Ytfddlodfmmnanaa
open Go.RowKit

theorem idx_mono {S : Nat → Int} {s t : Int} (h : s ≤ t) : ∀ n, idx S s n ≤ idx S t n
  | 0 => Nat.le_refl _
  | n + 1 => by
    have h1 := idx_mono (S := S) h n
    have h2 := idx_le S t n
    have h3 := idx_le S s n
    by_cases hc : idx S s n = n ∧ S n ≤ s
    · have e : idx S t n = n := by omega
      rw [idx, if_pos hc, idx, if_pos ⟨e, by omega⟩]
      exact Nat.le_refl _
    · rw [idx, if_neg hc]
      have : idx S t n ≤ idx S t (n + 1) := by
        rw [idx]; split <;> omega
      omega

/-- the numerator and the denominator between points k - 1 and k -/
def fN (S F : Nat → Int) (k : Nat) (s : Int) : Int := (F k - F (k - 1)) * (s - S (k - 1))
def fD (S : Nat → Int) (k : Nat) : Int := S k - S (k - 1)

theorem flow_mid {S F : Nat → Int} {n : Nat} {s : Int} (h0 : idx S s n ≠ 0) (h1 : idx S s n ≠ n) :
    fLo S F n s = F (idx S s n - 1) + fN S F (idx S s n) s / fD S (idx S s n) ∧ fHi S F n s = F (idx S s n - 1) + (fN S F (idx S s n) s + fD S (idx S s n) - 1) / fD S (idx S s n) := by
  simp only [fLo, fHi, if_neg h0, if_neg h1, fN, fD]
  exact ⟨trivial, trivial⟩

section
variable {S F : Nat → Int} {n : Nat} (hrow : rowsB S F n = true)
include hrow

theorem fD_pos {k : Nat} (h0 : k ≠ 0) (h1 : k < n) : 0 < fD S k := by
  have := rows_rise hrow k (k - 1) (by omega) h1
  unfold fD; omega
theorem fN_range {k : Nat} (_h0 : k ≠ 0) (h1 : k < n) {s : Int} (hs : S (k - 1) ≤ s) (hs' : s ≤ S k) : 0 ≤ fN S F k s ∧ fN S F k s ≤ (F k - F (k - 1)) * fD S k := by
  have := rows_flow hrow k (k - 1) (by omega) h1
  exact ⟨Int.mul_nonneg (by omega) (by omega), Int.mul_le_mul_of_nonneg_left (by unfold fD; omega) (by omega)⟩
theorem fN_mono {k : Nat} (h1 : k < n) {s t : Int} (hs : s ≤ t) : fN S F k s ≤ fN S F k t := by
  have := rows_flow hrow k (k - 1) (by omega) h1
  exact Int.mul_le_mul_of_nonneg_left (by omega) (by omega)

/-- both ends of a range, by the points around it -/
theorem flow_between (hn : n ≠ 0) (s : Int) : (idx S s n = 0 → fLo S F n s = F 0 ∧ fHi S F n s = F 0) ∧ (idx S s n = n → fLo S F n s = F (n - 1) ∧ fHi S F n s = F (n - 1)) ∧
    (idx S s n ≠ 0 → F (idx S s n - 1) ≤ fLo S F n s) ∧ (idx S s n < n → fHi S F n s ≤ F (idx S s n)) ∧ fLo S F n s ≤ fHi S F n s ∧ fHi S F n s ≤ fLo S F n s + 1 := by
  have hl := idx_le S s n
  by_cases h0 : idx S s n = 0
  · have e : fLo S F n s = F 0 ∧ fHi S F n s = F 0 := by simp [fLo, fHi, h0]
    rw [e.1, e.2, h0]
    refine ⟨fun _ => ⟨rfl, rfl⟩, fun h => absurd h.symm hn, fun h => absurd rfl h, fun _ => Int.le_refl _, Int.le_refl _, by omega⟩
  · by_cases h1 : idx S s n = n
    · have e : fLo S F n s = F (n - 1) ∧ fHi S F n s = F (n - 1) := by simp [fLo, fHi, h1, hn]
      rw [e.1, e.2, h1]
      exact ⟨fun h => absurd h hn, fun _ => ⟨rfl, rfl⟩, fun _ => Int.le_refl _, fun h => absurd h (by omega), Int.le_refl _, by omega⟩
    · have e := flow_mid (F := F) h0 h1
      have hd := fD_pos hrow h0 (by omega)
      have hlo := idx_below S s n (idx S s n - 1) (by omega)
      have hhi := idx_at S s n (by omega)
      have hr := fN_range hrow h0 (by omega) hlo (by omega)
      have hc := ceil_law (a := fN S F (idx S s n) s) hd
      have hq : 0 ≤ fN S F (idx S s n) s / fD S (idx S s n) := Int.ediv_nonneg hr.1 (by omega)
      have hq' : (fN S F (idx S s n) s + fD S (idx S s n) - 1) / fD S (idx S s n) ≤ F (idx S s n) - F (idx S s n - 1) := by
        have h3 : fN S F (idx S s n) s + fD S (idx S s n) - 1 < (F (idx S s n) - F (idx S s n - 1) + 1) * fD S (idx S s n) := by rw [Int.add_mul, Int.one_mul]; omega
        have h4 := Int.ediv_lt_of_lt_mul hd h3
        omega
      rw [e.1, e.2]
      refine ⟨fun h => absurd h h0, fun h => absurd h h1, fun _ => by omega, fun _ => by omega, ?_, ?_⟩
      · rw [hc]; split <;> omega
      · rw [hc]; split <;> omega

theorem flow_mono (hn : n ≠ 0) {s t : Int} (h : s ≤ t) : fLo S F n s ≤ fLo S F n t ∧ fHi S F n s ≤ fHi S F n t := by
  obtain ⟨a0, an, a1, a2, a3, a4⟩ := flow_between hrow hn s
  obtain ⟨b0, bn, b1, b2, b3, b4⟩ := flow_between hrow hn t
  have hm := idx_mono (S := S) h n
  have hl := idx_le S t n
  by_cases e : idx S s n = idx S t n
  · by_cases h0 : idx S s n = 0
    · rw [(a0 h0).1, (a0 h0).2, (b0 (by omega)).1, (b0 (by omega)).2]
      exact ⟨Int.le_refl _, Int.le_refl _⟩
    · by_cases h1 : idx S s n = n
      · rw [(an h1).1, (an h1).2, (bn (by omega)).1, (bn (by omega)).2]
        exact ⟨Int.le_refl _, Int.le_refl _⟩
      · have e1 := flow_mid (F := F) h0 h1
        have e2 := flow_mid (F := F) (e ▸ h0) (e ▸ h1)
        have hd := fD_pos hrow h0 (by omega)
        have hN := fN_mono hrow (k := idx S s n) (by omega) h
        rw [e1.1, e1.2, e2.1, e2.2, ← e]
        have h2 := Int.ediv_le_ediv hd hN
        have h3 := Int.ediv_le_ediv hd (show fN S F (idx S s n) s + fD S (idx S s n) - 1 ≤ fN S F (idx S s n) t + fD S (idx S s n) - 1 by omega)
        exact ⟨by omega, by omega⟩
  · have hf := rows_flow hrow (idx S t n - 1) (idx S s n) (by omega) (by omega)
    have h1 := a2 (by omega)
    have h2 := b1 (by omega)
    exact ⟨by omega, by omega⟩

theorem flow_in (hn : n ≠ 0) (s : Int) : 0 ≤ fLo S F n s ∧ fHi S F n s ≤ 1073741824 ∧ fLo S F n s ≤ fHi S F n s ∧ fHi S F n s ≤ fLo S F n s + 1 := by
  obtain ⟨a0, an, a1, a2, a3, a4⟩ := flow_between hrow hn s
  have hl := idx_le S s n
  refine ⟨?_, ?_, a3, a4⟩
  · by_cases h0 : idx S s n = 0
    · rw [(a0 h0).1]; exact (rows_in hrow (j := 0) (by omega)).2.1
    · have := (rows_in hrow (j := idx S s n - 1) (by omega)).2.1
      have := a1 h0
      omega
  · by_cases h1 : idx S s n = n
    · rw [(an h1).2]; exact (rows_in hrow (j := n - 1) (by omega)).2.2
    · have := (rows_in hrow (j := idx S s n) (by omega)).2.2
      have := a2 (by omega)
      omega
end

/-- for what rises: which places are above s -/
theorem idx_test_mono {S : Nat → Int} {n : Nat} (h : ∀ i j, i ≤ j → j < n → S i ≤ S j) (s : Int) {i : Nat} (hi : i < n) : decide (s < S i) = decide (idx S s n ≤ i) := by
  by_cases hk : idx S s n ≤ i
  · have h1 := idx_at S s n (by omega)
    have h2 := h (idx S s n) i hk hi
    have : s < S i := by omega
    simp [hk, this]
  · have := idx_below S s n i (by omega)
    have h2 : ¬ s < S i := by omega
    simp [hk, h2]

/-- the least stage whose range ends at a flow or above; the least one whose range begins above -/
def stLo (S F : Nat → Int) (n : Nat) (q : Int) : Nat := idx (fun j => fHi S F n j) (q - 1) 1048577
def stHi (S F : Nat → Int) (n : Nat) (q : Int) : Nat := idx (fun j => fLo S F n j) q 1048577
theorem stLo_le (S F : Nat → Int) (n : Nat) (q : Int) : stLo S F n q ≤ 1048577 := idx_le _ _ _
theorem stHi_le (S F : Nat → Int) (n : Nat) (q : Int) : stHi S F n q ≤ 1048577 := idx_le _ _ _
theorem stLo_test {S F : Nat → Int} {n : Nat} (hrow : rowsB S F n = true) (hn : n ≠ 0) (q : Int) {i : Nat} (hi : i < 1048577) : decide (q ≤ fHi S F n i) = decide (stLo S F n q ≤ i) := by
  rw [stLo, ← idx_test_mono (S := fun j => fHi S F n j) (fun a b hab _ => (flow_mono hrow hn (by omega)).2) (q - 1) hi]
  apply decide_eq_decide.2
  omega
theorem stHi_test {S F : Nat → Int} {n : Nat} (hrow : rowsB S F n = true) (hn : n ≠ 0) (q : Int) {i : Nat} (hi : i < 1048577) : decide (q < fLo S F n i) = decide (stHi S F n q ≤ i) :=
  idx_test_mono (S := fun j => fLo S F n j) (fun a b hab _ => (flow_mono hrow hn (by omega)).1) q hi

/-- the error of a reading -/
def errN (cl dr si h : Int) : Int := cl + dr * (max 0 (h - si) / 24)
theorem errN_range {cl dr si h : Int} (h1 : 0 ≤ cl ∧ cl ≤ 1000) (h2 : 0 ≤ dr ∧ dr ≤ 1000) (h3 : 0 ≤ si) (h4 : h ≤ 4096) : 0 ≤ errN cl dr si h ∧ errN cl dr si h ≤ 172000 ∧ 0 ≤ dr * (max 0 (h - si) / 24) ∧ dr * (max 0 (h - si) / 24) ≤ 171000 := by
  have ha : 0 ≤ max 0 (h - si) / 24 := by omega
  have hb : max 0 (h - si) / 24 ≤ 171 := by omega
  have h5 : 0 ≤ dr * (max 0 (h - si) / 24) := Int.mul_nonneg h2.1 ha
  have h6 : dr * (max 0 (h - si) / 24) ≤ 1000 * 171 := Int.mul_le_mul h2.2 hb ha (by omega)
  unfold errN
  omega
end Go.Proofs.Ytfddlodfmmnanaa
