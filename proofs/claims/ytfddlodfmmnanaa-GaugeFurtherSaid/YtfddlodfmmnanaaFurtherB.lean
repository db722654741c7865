/- The table that GaugeFurther builds. Plain laws. -/
import Derived.Test.YtfddlodfmmnanaaFurther
import Derived.Test.YtfddlodfmmnanaaLawsC
namespace Go.Proofs.Ytfddlodfmmnanaa
open Go.RowKit

section
variable (S F : Nat → Int) (n : Nat) (t p : Int)
/-- the place of the stage t; is it put there? -/
def plc : Nat := idx S t n
def insB : Bool := decide (plc S n t < n) && decide (S (plc S n t - 1) < t)
def newS : Nat → Int := if insB S n t = true then putS S (plc S n t) t else S
def newF : Nat → Int := if insB S n t = true then putS F (plc S n t) p else F
/-- the number of rows behind j rounds -/
def newN (j : Nat) : Nat := if insB S n t = true ∧ plc S n t < j then j + 1 else j
end

section
variable {S F : Nat → Int} {n : Nat} {t p : Int}
theorem newN_zero : newN S n t 0 = 0 := by simp [newN]
theorem newN_le (j : Nat) : newN S n t j ≤ j + 1 := by unfold newN; split <;> omega
theorem newN_ge (j : Nat) : j ≤ newN S n t j := by unfold newN; split <;> omega

theorem plc_pos (h0 : S 0 ≤ t) (hn : n ≠ 0) : plc S n t ≠ 0 := by
  intro h
  have := idx_at S t n (by unfold plc at h; omega)
  unfold plc at h
  rw [h] at this
  omega

/-- a row below the place -/
theorem step_low {j : Nat} (hj : j < plc S n t) : newN S n t j = j ∧ newN S n t (j + 1) = j + 1 ∧ newS S n t j = S j ∧ newF S F n t p j = F j := by
  refine ⟨?_, ?_, ?_, ?_⟩
  · rw [newN, if_neg (by omega)]
  · rw [newN, if_neg (by omega)]
  · unfold newS; split
    · rw [putS_lt hj]
    · rfl
  · unfold newF; split
    · rw [putS_lt hj]
    · rfl
/-- the row that is put in -/
theorem step_put (hi : insB S n t = true) (h0 : S 0 ≤ t) (hn : n ≠ 0) : newN S n t (plc S n t) = plc S n t ∧ newN S n t (plc S n t + 1) = plc S n t + 1 + 1 ∧ newS S n t (plc S n t - 1) < t ∧ newS S n t (plc S n t) = t ∧ newF S F n t p (plc S n t) = p ∧
    newS S n t (plc S n t + 1) = S (plc S n t) ∧ newF S F n t p (plc S n t + 1) = F (plc S n t) := by
  have hp := plc_pos h0 hn
  have hS : newS S n t = putS S (plc S n t) t := by rw [newS, if_pos hi]
  have hF : newF S F n t p = putS F (plc S n t) p := by rw [newF, if_pos hi]
  rw [hS, hF]
  refine ⟨?_, ?_, ?_, putS_at, putS_at, ?_, ?_⟩
  · rw [newN, if_neg (by omega)]
  · rw [newN, if_pos ⟨hi, by omega⟩]
  · rw [putS_lt (by omega)]
    simp [insB] at hi
    exact hi.2
  · rw [putS_gt (by omega), Nat.add_sub_cancel]
  · rw [putS_gt (by omega), Nat.add_sub_cancel]
/-- a row behind the place -/
theorem step_high {j : Nat} (hrow : rowsB S F n = true) (h0 : S 0 ≤ t) (hn : n ≠ 0) (hj : plc S n t ≤ j) (hjn : j < n) (hi : ¬ (insB S n t = true ∧ j = plc S n t)) :
    newN S n t (j + 1) = newN S n t j + 1 ∧ newN S n t j ≠ 0 ∧ t ≤ newS S n t (newN S n t j - 1) ∧ newS S n t (newN S n t j) = S j ∧ newF S F n t p (newN S n t j) = F j := by
  have hp := plc_pos h0 hn
  by_cases h : insB S n t = true
  · have hS : newS S n t = putS S (plc S n t) t := by rw [newS, if_pos h]
    have hF : newF S F n t p = putS F (plc S n t) p := by rw [newF, if_pos h]
    have hj' : plc S n t < j := by
      by_cases e : j = plc S n t
      · exact absurd ⟨h, e⟩ hi
      · omega
    have e1 : newN S n t j = j + 1 := by rw [newN, if_pos ⟨h, hj'⟩]
    have e2 : newN S n t (j + 1) = j + 1 + 1 := by rw [newN, if_pos ⟨h, by omega⟩]
    rw [e1, e2, hS, hF, Nat.add_sub_cancel]
    refine ⟨rfl, by omega, ?_, by rw [putS_gt (by omega), Nat.add_sub_cancel], by rw [putS_gt (by omega), Nat.add_sub_cancel]⟩
    rw [putS_gt hj']
    have h1 : t < S (plc S n t) := idx_at S t n (by show plc S n t < n; omega)
    by_cases e : plc S n t = j - 1
    · rw [← e]; omega
    · have := rows_rise hrow (j - 1) (plc S n t) (by omega) (by omega)
      omega
  · have hS : newS S n t = S := by rw [newS, if_neg h]
    have hF : newF S F n t p = F := by rw [newF, if_neg h]
    have e1 : newN S n t j = j := by rw [newN, if_neg (fun c => h c.1)]
    have e2 : newN S n t (j + 1) = j + 1 := by rw [newN, if_neg (fun c => h c.1)]
    rw [e1, e2, hS, hF]
    refine ⟨rfl, by omega, ?_, rfl, rfl⟩
    by_cases e : j = plc S n t
    · have h3 : ¬ S (plc S n t - 1) < t := fun c => h (by simp [insB]; exact ⟨by omega, c⟩)
      rw [e]; omega
    · have h1 : t < S (plc S n t) := idx_at S t n (by show plc S n t < n; omega)
      by_cases e2 : plc S n t = j - 1
      · rw [← e2]; omega
      · have := rows_rise hrow (j - 1) (plc S n t) (by omega) (by omega)
        omega

/-- what holds of the whole new table -/
theorem new_table (hrow : rowsB S F n = true) (h0 : S 0 ≤ t) (hn : n ≠ 0) (h1 : fLo S F n t = p) (h2 : fHi S F n t = p) :
    rowsB (newS S n t) (newF S F n t p) (newN S n t n) = true ∧ ∀ s, fLo (newS S n t) (newF S F n t p) (newN S n t n) s = fLo S F n s ∧ fHi (newS S n t) (newF S F n t p) (newN S n t n) s = fHi S F n s := by
  have hp := plc_pos h0 hn
  by_cases h : insB S n t = true
  · have hS : newS S n t = putS S (plc S n t) t := by rw [newS, if_pos h]
    have hF : newF S F n t p = putS F (plc S n t) p := by rw [newF, if_pos h]
    have h' := h
    simp [insB] at h'
    have e : newN S n t n = n + 1 := by rw [newN, if_pos ⟨h, h'.1⟩]
    have hk : t < S (plc S n t) := idx_at S t n h'.1
    obtain ⟨_, _, b1, b2, _, _⟩ := flow_between hrow hn t
    have hpl := b1 hp
    have hph := b2 h'.1
    rw [h1] at hpl
    rw [h2] at hph
    have f := flow_at (F := F) (rfl : idx S t n = _) hp (by show plc S n t ≠ n; omega)
    rw [h1, h2] at f
    have hd : 0 < S (plc S n t) - S (plc S n t - 1) := by omega
    have hline : (p - F (plc S n t - 1)) * (S (plc S n t) - S (plc S n t - 1)) = (F (plc S n t) - F (plc S n t - 1)) * (t - S (plc S n t - 1)) := by
      change p = F (plc S n t - 1) + (F (plc S n t) - F (plc S n t - 1)) * (t - S (plc S n t - 1)) / (S (plc S n t) - S (plc S n t - 1)) ∧ p = F (plc S n t - 1) + ((F (plc S n t) - F (plc S n t - 1)) * (t - S (plc S n t - 1)) + (S (plc S n t) - S (plc S n t - 1)) - 1) / (S (plc S n t) - S (plc S n t - 1)) at f
      generalize (F (plc S n t) - F (plc S n t - 1)) * (t - S (plc S n t - 1)) = N at f ⊢
      generalize S (plc S n t) - S (plc S n t - 1) = D at f hd ⊢
      have hc := ceil_law (a := N) hd
      have hm := Int.emod_nonneg N (show D ≠ 0 by omega)
      have hq := Int.mul_ediv_add_emod N D
      have hz : N % D = 0 := by
        by_cases c : 0 < N % D
        · rw [if_pos c] at hc; omega
        · omega
      have e3 : p - F (plc S n t - 1) = N / D := by omega
      rw [e3, Int.mul_comm]
      omega
    rw [e, hS, hF]
    exact ⟨put_rows hrow hp h'.1 h'.2 hk hpl hph, fun s => put_flow hrow hp h'.1 h'.2 hk hline s⟩
  · have hS : newS S n t = S := by rw [newS, if_neg h]
    have hF : newF S F n t p = F := by rw [newF, if_neg h]
    have e : newN S n t n = n := by rw [newN, if_neg (fun c => h c.1)]
    rw [e, hS, hF]
    exact ⟨hrow, fun s => ⟨rfl, rfl⟩⟩
end
end Go.Proofs.Ytfddlodfmmnanaa
