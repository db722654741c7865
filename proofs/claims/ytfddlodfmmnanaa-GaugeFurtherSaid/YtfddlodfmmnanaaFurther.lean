/- A point more that lies on the line between two points changes no range. Plain laws. -/
import Derived.Test.YtfddlodfmmnanaaMono
namespace Go.Proofs.Ytfddlodfmmnanaa
open Go.RowKit

theorem idx_eq {S : Nat → Int} {s : Int} {n k : Nat} (hk : k ≤ n) (h1 : ∀ j, j < k → S j ≤ s) (h2 : k < n → s < S k) : idx S s n = k := by
  have hl := idx_le S s n
  by_cases h : idx S s n < k
  · have := idx_at S s n (by omega)
    have := h1 _ h
    omega
  · by_cases h3 : k < idx S s n
    · have := idx_below S s n k h3
      have := h2 (by omega)
      omega
    · omega

theorem ceil_neg {a d : Int} (hd : 0 < d) : (a + d - 1) / d = -((-a) / d) := by
  have h1 := Int.emod_nonneg (-a) (show d ≠ 0 by omega)
  have h2 := Int.emod_lt_of_pos (-a) hd
  have h3 := Int.mul_ediv_add_emod (-a) d
  have h4 : a + d - 1 = (d - 1 - (-a) % d) + d * (-((-a) / d)) := by rw [Int.mul_neg]; omega
  rw [h4, Int.add_mul_ediv_left _ _ (by omega), Int.ediv_eq_zero_of_lt (by omega) (by omega), Int.zero_add]
theorem ratio {A C d e : Int} (x : Int) (hd : 0 < d) (he : 0 < e) (h : A * e = C * d) : (A * x) / d = (C * x) / e := by
  have h1 : (A * x) / d = (e * (A * x)) / (e * d) := (Int.mul_ediv_mul_of_pos _ _ he).symm
  have h2 : (C * x) / e = (d * (C * x)) / (d * e) := (Int.mul_ediv_mul_of_pos _ _ hd).symm
  rw [h1, h2, Int.mul_comm e d]
  congr 1
  rw [← Int.mul_assoc, ← Int.mul_assoc, Int.mul_comm e A, Int.mul_comm d C, h]
theorem ratio_ceil {A C d e : Int} (x : Int) (hd : 0 < d) (he : 0 < e) (h : A * e = C * d) : (A * x + d - 1) / d = (C * x + e - 1) / e := by
  rw [ceil_neg hd, ceil_neg he, ← Int.mul_neg, ← Int.mul_neg, ratio (-x) hd he h]

/-- the table with one point more, at place k -/
def putS (S : Nat → Int) (k : Nat) (t : Int) (i : Nat) : Int := if i < k then S i else if i = k then t else S (i - 1)

section
variable {S F : Nat → Int} {n k : Nat} {t p : Int}
theorem putS_lt {i : Nat} (h : i < k) : putS S k t i = S i := by rw [putS, if_pos h]
theorem putS_at : putS S k t k = t := by rw [putS, if_neg (by omega), if_pos rfl]
theorem putS_gt {i : Nat} (h : k < i) : putS S k t i = S (i - 1) := by rw [putS, if_neg (by omega), if_neg (by omega)]

theorem prev_gen (S : Nat → Int) (i : Nat) : prevS S (i + 1) = S i := by rw [prevS, if_neg (by omega), Nat.add_sub_cancel]
theorem prevF_gen (F : Nat → Int) (i : Nat) : prevF F (i + 1) = F i := by rw [prevF, if_neg (by omega), Nat.add_sub_cancel]
theorem rowB_of {i : Nat} (h1 : 0 ≤ S i ∧ S i ≤ 1048576) (h2 : 0 ≤ F i ∧ F i ≤ 1073741824) (h3 : ∀ j, j + 1 = i → S j < S i ∧ F j ≤ F i) : rowB S F i = true := by
  rw [rowB, inB_iff.2 h1, inB_iff.2 h2]
  by_cases h : i = 0
  · subst h; simp [prevS, prevF]; omega
  · obtain ⟨j, rfl⟩ : ∃ j, i = j + 1 := ⟨i - 1, by omega⟩
    rw [prev_gen, prevF_gen]
    simpa using h3 j rfl
theorem rowsB_of (m : Nat) (h : ∀ i, i < m → rowB S F i = true) : rowsB S F m = true := by
  induction m with
  | zero => rfl
  | succ m ih => rw [rowsB, ih (fun i hi => h i (by omega)), h m (by omega)]; rfl

/-- the new table is right -/
theorem put_rows (hrow : rowsB S F n = true) (h0 : k ≠ 0) (hk : k < n) (h1 : S (k - 1) < t) (h2 : t < S k) (h3 : F (k - 1) ≤ p) (h4 : p ≤ F k) : rowsB (putS S k t) (putS F k p) (n + 1) = true := by
  refine rowsB_of _ fun i hi => ?_
  have rk := rows_in hrow (j := k - 1) (by omega)
  have rk2 := rows_in hrow hk
  by_cases c1 : i < k
  · have ri := rows_in hrow (j := i) (by omega)
    refine rowB_of (by rw [putS_lt c1]; exact ri.1) (by rw [putS_lt c1]; exact ri.2) fun j hj => ?_
    subst hj
    rw [putS_lt c1, putS_lt c1, putS_lt (by omega), putS_lt (by omega)]
    exact ⟨rows_rise hrow (j + 1) j (by omega) (by omega), rows_flow hrow (j + 1) j (by omega) (by omega)⟩
  · by_cases c2 : i = k
    · subst c2
      refine rowB_of (by rw [putS_at]; omega) (by rw [putS_at]; omega) fun j hj => ?_
      subst hj
      rw [putS_at, putS_at, putS_lt (by omega), putS_lt (by omega)]
      exact ⟨by simpa using h1, by simpa using h3⟩
    · have ri := rows_in hrow (j := i - 1) (by omega)
      refine rowB_of (by rw [putS_gt (by omega)]; exact ri.1) (by rw [putS_gt (by omega)]; exact ri.2) fun j hj => ?_
      subst hj
      rw [putS_gt (S := S) (i := j + 1) (by omega), putS_gt (S := F) (i := j + 1) (by omega), Nat.add_sub_cancel]
      by_cases c3 : j = k
      · subst c3
        rw [putS_at, putS_at]
        exact ⟨h2, h4⟩
      · rw [putS_gt (by omega), putS_gt (by omega)]
        exact ⟨rows_rise hrow j (j - 1) (by omega) (by omega), rows_flow hrow j (j - 1) (by omega) (by omega)⟩

/-- a range between two points, its place known -/
theorem flow_at {s : Int} {j : Nat} (hj : idx S s n = j) (h0 : j ≠ 0) (hn : j ≠ n) : fLo S F n s = F (j - 1) + (F j - F (j - 1)) * (s - S (j - 1)) / (S j - S (j - 1)) ∧
    fHi S F n s = F (j - 1) + ((F j - F (j - 1)) * (s - S (j - 1)) + (S j - S (j - 1)) - 1) / (S j - S (j - 1)) := by
  subst hj
  simp only [fLo, fHi, if_neg h0, if_neg hn]
  exact ⟨trivial, trivial⟩
theorem flow_zero {s : Int} (hj : idx S s n = 0) : fLo S F n s = F 0 ∧ fHi S F n s = F 0 := by simp [fLo, fHi, hj]
theorem flow_end {s : Int} (hj : idx S s n = n) (hn : n ≠ 0) : fLo S F n s = F (n - 1) ∧ fHi S F n s = F (n - 1) := by simp [fLo, fHi, hj, hn]

/-- nothing has changed -/
theorem put_flow (hrow : rowsB S F n = true) (h0 : k ≠ 0) (hk : k < n) (h1 : S (k - 1) < t) (h2 : t < S k) (hp : (p - F (k - 1)) * (S k - S (k - 1)) = (F k - F (k - 1)) * (t - S (k - 1))) (s : Int) :
    fLo (putS S k t) (putS F k p) (n + 1) s = fLo S F n s ∧ fHi (putS S k t) (putS F k p) (n + 1) s = fHi S F n s := by
  have hl := idx_le S s n
  have hd : 0 < S k - S (k - 1) := by omega
  by_cases hs : s < t
  · -- the place stays
    have hjk : idx S s n ≤ k := by
      by_cases h : idx S s n ≤ k
      · exact h
      · have := idx_below S s n k (by omega)
        omega
    have hi : idx (putS S k t) s (n + 1) = idx S s n := by
      refine idx_eq (by omega) (fun j hj => ?_) (fun hj => ?_)
      · rw [putS_lt (by omega)]; exact idx_below S s n j hj
      · by_cases c : idx S s n = k
        · rw [c, putS_at]; exact hs
        · rw [putS_lt (by omega)]; exact idx_at S s n (by omega)
    by_cases c0 : idx S s n = 0
    · have e1 := flow_zero (F := putS F k p) (hi.trans c0)
      have e2 := flow_zero (F := F) c0
      rw [e1.1, e1.2, e2.1, e2.2, putS_lt (by omega)]
      exact ⟨rfl, rfl⟩
    · have e1 := flow_at (F := putS F k p) hi c0 (by omega)
      have e2 := flow_at (F := F) (rfl : idx S s n = _) c0 (by omega)
      rw [e1.1, e1.2, e2.1, e2.2]
      by_cases c : idx S s n = k
      · rw [c, putS_at, putS_at, putS_lt (by omega), putS_lt (by omega)]
        have hr := ratio (s - S (k - 1)) (show 0 < t - S (k - 1) by omega) hd hp
        have hr2 := ratio_ceil (s - S (k - 1)) (show 0 < t - S (k - 1) by omega) hd hp
        rw [hr, hr2]
        exact ⟨rfl, rfl⟩
      · rw [putS_lt (by omega), putS_lt (by omega), putS_lt (by omega), putS_lt (by omega)]
        exact ⟨rfl, rfl⟩
  · have hjk : k ≤ idx S s n := by
      by_cases h : k ≤ idx S s n
      · exact h
      · have h3 := idx_at S s n (by omega)
        have : S (idx S s n) ≤ S (k - 1) := by
          by_cases e : idx S s n = k - 1
          · rw [e]; exact Int.le_refl _
          · have := rows_rise hrow (k - 1) (idx S s n) (by omega) (by omega)
            omega
        omega
    have hi : idx (putS S k t) s (n + 1) = idx S s n + 1 := by
      refine idx_eq (by omega) (fun j hj => ?_) (fun hj => ?_)
      · by_cases c1 : j < k
        · rw [putS_lt c1]; exact idx_below S s n j (by omega)
        · by_cases c2 : j = k
          · subst c2; rw [putS_at]; omega
          · rw [putS_gt (by omega)]; exact idx_below S s n (j - 1) (by omega)
      · rw [putS_gt (by omega), Nat.add_sub_cancel]
        exact idx_at S s n (by omega)
    by_cases c0 : idx S s n = n
    · have e1 := flow_end (F := putS F k p) (hi.trans (by rw [c0])) (by omega)
      have e2 := flow_end (F := F) c0 (by omega)
      rw [e1.1, e1.2, e2.1, e2.2, Nat.add_sub_cancel, putS_gt (by omega)]
      exact ⟨rfl, rfl⟩
    · have e1 := flow_at (F := putS F k p) hi (by omega) (by omega)
      have e2 := flow_at (F := F) (rfl : idx S s n = _) (by omega) c0
      rw [e1.1, e1.2, e2.1, e2.2, Nat.add_sub_cancel]
      by_cases c : idx S s n = k
      · rw [c, putS_at, putS_at, putS_gt (by omega), putS_gt (by omega), Nat.add_sub_cancel]
        have hq : (F k - p) * (S k - S (k - 1)) = (F k - F (k - 1)) * (S k - t) := by
          have e : (F k - p) * (S k - S (k - 1)) = (F k - F (k - 1)) * (S k - S (k - 1)) - (p - F (k - 1)) * (S k - S (k - 1)) := by rw [← Int.sub_mul]; congr 1; omega
          rw [e, hp, ← Int.mul_sub]
          congr 1; omega
        have hr := ratio (s - t) (show 0 < S k - t by omega) hd hq
        have hr2 := ratio_ceil (s - t) (show 0 < S k - t by omega) hd hq
        have hN : (F k - F (k - 1)) * (s - S (k - 1)) = (F k - F (k - 1)) * (s - t) + (S k - S (k - 1)) * (p - F (k - 1)) := by
          rw [Int.mul_comm (S k - S (k - 1)), hp, ← Int.mul_add]
          congr 1; omega
        rw [hr, hr2, hN]
        have hM : (F k - F (k - 1)) * (s - t) + (S k - S (k - 1)) * (p - F (k - 1)) + (S k - S (k - 1)) - 1 = ((F k - F (k - 1)) * (s - t) + (S k - S (k - 1)) - 1) + (S k - S (k - 1)) * (p - F (k - 1)) := by omega
        rw [hM, Int.add_mul_ediv_left _ _ (by omega), Int.add_mul_ediv_left _ _ (by omega)]
        exact ⟨by omega, by omega⟩
      · rw [putS_gt (by omega), putS_gt (by omega), putS_gt (by omega), putS_gt (by omega)]
        simp only [Nat.add_sub_cancel]
        constructor <;> first | rfl | trivial
end
end Go.Proofs.Ytfddlodfmmnanaa
