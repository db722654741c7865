/- Plain laws of turns: the salt after so many turns. No program in sight. -/
import Derived.Test.YthmebjbaigiehaaPlain
namespace Go.Proofs.Ythmebjbaigiehaa
open Go.RowKit

/-- the salt after k turns -/
def itA (H L S A : Int) : Nat → Int
  | 0 => A
  | k + 1 => lchA H (itA H L S A k) L S
section
variable {H L S lim : Int}
theorem itA_next (A : Int) : ∀ k, itA H L S A (k + 1) = itA H L S (lchA H A L S) k
  | 0 => rfl
  | k + 1 => by
    show lchA H (itA H L S A (k + 1)) L S = lchA H (itA H L S (lchA H A L S) k) L S
    rw [itA_next A k]
theorem trn_some : ∀ (k : Nat) (A : Int) (n : Nat), trn H L S lim k A = some n → (∀ i, i < n → ¬ itA H L S A i ≤ lim ∧ lchE H (itA H L S A i) L S = 0) ∧ itA H L S A n ≤ lim
  | 0, A, n, h => by
    unfold trn at h
    split at h
    · simp at h; subst h; exact ⟨fun i hi => absurd hi (by omega), by assumption⟩
    · cases h
  | k + 1, A, n, h => by
    unfold trn at h
    split at h
    · simp at h; subst h; exact ⟨fun i hi => absurd hi (by omega), by assumption⟩
    rename_i h0
    split at h
    · rename_i h2
      cases e : trn H L S lim k (lchA H A L S) with
      | none => rw [e] at h; cases h
      | some m =>
        rw [e] at h
        obtain rfl : n = m + 1 := by simp at h; omega
        obtain ⟨h3, h4⟩ := trn_some k _ m e
        refine ⟨fun i hi => ?_, by rw [itA_next]; exact h4⟩
        cases i with
        | zero => exact ⟨h0, h2⟩
        | succ i => rw [itA_next]; exact h3 i (by omega)
    · cases h
theorem trn_none : ∀ (k : Nat) (A : Int), trn H L S lim k A = none → ∀ i, i ≤ k → (∀ j, j < i → lchE H (itA H L S A j) L S = 0) → ¬ itA H L S A i ≤ lim
  | 0, A, h, i, hi, _ => by
    unfold trn at h
    split at h
    · cases h
    · obtain rfl : i = 0 := by omega
      assumption
  | k + 1, A, h, i, hi, hj => by
    unfold trn at h
    split at h
    · cases h
    rename_i h0
    cases i with
    | zero => exact h0
    | succ i =>
      have hz : lchE H A L S = 0 := hj 0 (by omega)
      rw [if_pos hz] at h
      have e : trn H L S lim k (lchA H A L S) = none := by simpa using h
      rw [itA_next]
      exact trn_none k _ e i (by omega) fun j hj' => by rw [← itA_next]; exact hj (j + 1) (by omega)
/-- the loop of the law: what it asks at turn i, where the n-th is the last -/
theorem leach_loop {A : Int} {most : Nat} {o : Option Nat} (ho : trn H L S lim most A = o) {i : Nat} (hi : i ≤ o.getD most) (hj : ∀ j, j < i → lchE H (itA H L S A j) L S = 0) :
    (itA H L S A i ≤ lim ↔ o.isSome = true ∧ i = o.getD most) ∧ (lchE H (itA H L S A i) L S ≠ 0 → ¬ (o.isSome = true ∧ i < o.getD most)) := by
  cases o with
  | none =>
    have h1 := trn_none most A ho i hi hj
    exact ⟨⟨fun h => absurd h h1, fun h => by cases h.1⟩, fun _ h => by cases h.1⟩
  | some n =>
    obtain ⟨h1, h2⟩ := trn_some most A n ho
    simp only [Option.getD_some, Option.isSome_some, true_and] at hi ⊢
    by_cases e : i = n
    · subst e; exact ⟨⟨fun _ => rfl, fun _ => h2⟩, fun _ => by omega⟩
    · obtain ⟨h3, h4⟩ := h1 i (by omega)
      exact ⟨⟨fun h => absurd h h3, fun h => absurd h e⟩, fun h => absurd h4 h⟩
end
theorem trnE_zero {H A L S most lim : Int} (h : trnE H A L S most lim = 0) : lchE H A L S = 0 ∧ (0 ≤ most ∧ most ≤ 400) ∧ (0 ≤ lim ∧ lim ≤ 1073741824) := by
  unfold trnE at h
  split at h
  · split at h
    · rename_i h1 h2; exact ⟨h1, inB_iff.1 h2.1, inB_iff.1 h2.2⟩
    · omega
  · rename_i h1; exact absurd h h1
theorem trnE_bad {H A L S most lim : Int} (h : lchE H A L S ≠ 0) : trnE H A L S most lim = lchE H A L S := if_neg h
theorem trnE_arg {H A L S most lim : Int} (h : lchE H A L S = 0) (h2 : trnE H A L S most lim ≠ 0) : trnE H A L S most lim = 1 := by
  unfold trnE at h2 ⊢
  rw [if_pos h] at h2 ⊢
  split at h2
  · omega
  · rename_i h3; rw [if_neg h3]
end Go.Proofs.Ythmebjbaigiehaa
