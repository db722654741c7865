/- What a flow is. -/
import Derived.Test.YtfddlodfmmnanaaCheck
import Derived.Test.YtfddlodfmmnanaaSearch
import Derived.Deep.QuietTactic
import Derived.BigQuiet
namespace Go.Proofs.Ytfddlodfmmnanaa
open Go.RowKit

/-- the number of points that are not above a stage -/
def idx (S : Nat → Int) (s : Int) : Nat → Nat
  | 0 => 0
  | n + 1 => if idx S s n = n ∧ S n ≤ s then n + 1 else idx S s n
theorem idx_le (S : Nat → Int) (s : Int) : ∀ n, idx S s n ≤ n
  | 0 => Nat.le_refl _
  | n + 1 => by
    have := idx_le S s n
    unfold idx
    split <;> omega
theorem idx_below (S : Nat → Int) (s : Int) : ∀ n j, j < idx S s n → S j ≤ s
  | 0, j, h => absurd h (by simp [idx])
  | n + 1, j, h => by
    unfold idx at h
    split at h
    · rename_i hc
      by_cases e : j = n
      · subst e; exact hc.2
      · exact idx_below S s n j (by omega)
    · exact idx_below S s n j h
theorem idx_at (S : Nat → Int) (s : Int) : ∀ n, idx S s n < n → s < S (idx S s n)
  | 0, h => absurd h (by simp [idx])
  | n + 1, h => by
    have hl := idx_le S s n
    by_cases hc : idx S s n = n ∧ S n ≤ s
    · have e : idx S s (n + 1) = n + 1 := by rw [idx, if_pos hc]
      omega
    · have e : idx S s (n + 1) = idx S s n := by rw [idx, if_neg hc]
      rw [e]
      by_cases hn : idx S s n = n
      · rw [hn]
        have : ¬ S n ≤ s := fun h' => hc ⟨hn, h'⟩
        omega
      · exact idx_at S s n (by omega)
/-- the stages rise -/
theorem rows_rise {S F : Nat → Int} {n : Nat} (h : rowsB S F n = true) : ∀ j i, i < j → j < n → S i < S j
  | 0, i, hi, _ => absurd hi (by omega)
  | j + 1, i, hi, hj => by
    have h1 := rowsB_at n h (j + 1) hj
    simp [rowB, prevS] at h1
    by_cases e : i = j
    · subst e; exact h1.2.2.1
    · have := rows_rise h j i (by omega) (by omega)
      omega
theorem rows_flow {S F : Nat → Int} {n : Nat} (h : rowsB S F n = true) : ∀ j i, i ≤ j → j < n → F i ≤ F j
  | 0, i, hi, _ => by obtain rfl : i = 0 := by omega
                      exact Int.le_refl _
  | j + 1, i, hi, hj => by
    have h1 := rowsB_at n h (j + 1) hj
    simp [rowB, prevF] at h1
    by_cases e : i = j + 1
    · subst e; exact Int.le_refl _
    · have := rows_flow h j i (by omega) (by omega)
      omega
theorem rows_in {S F : Nat → Int} {n : Nat} (h : rowsB S F n = true) {j : Nat} (hj : j < n) : (0 ≤ S j ∧ S j ≤ 1048576) ∧ 0 ≤ F j ∧ F j ≤ 1073741824 := by
  have h1 := rowsB_at n h j hj
  simp [rowB, inB] at h1
  omega
theorem idx_test {S F : Nat → Int} {n : Nat} (h : rowsB S F n = true) (s : Int) {i : Nat} (hi : i < n) : decide (s < S i) = decide (idx S s n ≤ i) := by
  by_cases hk : idx S s n ≤ i
  · have h1 := idx_at S s n (by omega)
    have : s < S i := by
      by_cases e : idx S s n = i
      · rw [← e]; exact h1
      · have := rows_rise h i (idx S s n) (by omega) hi
        omega
    simp [hk, this]
  · have := idx_below S s n i (by omega)
    have h2 : ¬ s < S i := by omega
    simp [hk, h2]

/-- the least and the greatest flow of a stage -/
def fLo (S F : Nat → Int) (n : Nat) (s : Int) : Int :=
  if idx S s n = 0 then F 0 else if idx S s n = n then F (n - 1) else
    F (idx S s n - 1) + (F (idx S s n) - F (idx S s n - 1)) * (s - S (idx S s n - 1)) / (S (idx S s n) - S (idx S s n - 1))
def fHi (S F : Nat → Int) (n : Nat) (s : Int) : Int :=
  if idx S s n = 0 then F 0 else if idx S s n = n then F (n - 1) else
    F (idx S s n - 1) + ((F (idx S s n) - F (idx S s n - 1)) * (s - S (idx S s n - 1)) + (S (idx S s n) - S (idx S s n - 1)) - 1) / (S (idx S s n) - S (idx S s n - 1))
theorem ceil_law {a d : Int} (hd : 0 < d) : (a + d - 1) / d = a / d + (if 0 < a % d then 1 else 0) := by
  have h1 := Int.emod_nonneg a (show d ≠ 0 by omega)
  have h2 := Int.emod_lt_of_pos a hd
  have h3 := Int.mul_ediv_add_emod a d
  split
  · have : a + d - 1 = (a % d - 1) + d * (a / d + 1) := by rw [Int.mul_add]; omega
    rw [this, Int.add_mul_ediv_left _ _ (by omega), Int.ediv_eq_zero_of_lt (by omega) (by omega)]
    omega
  · have : a + d - 1 = (d - 1) + d * (a / d) := by omega
    rw [this, Int.add_mul_ediv_left _ _ (by omega), Int.ediv_eq_zero_of_lt (by omega) (by omega)]
    omega

set_option maxRecDepth 100000 in
theorem above_29 (i : Nat) (gb sb : Nat) (b off n c : Nat) (x1 x2 x3 x4 x5 : Value) (S F : Nat → Int) (s : Int) (w : World) (B : Nat) (hi : i < n)
    (hg : Blk w gb 24 #[x1, x2, x3, x4, x5, .slice (some ⟨b, off, none⟩) n c]) (hs : Blk w sb 3 #[.int .i64 s]) (hr : RdP w B (some ⟨b, off, none⟩) n S F) :
    Calls Try.prog 29 (#[.int .i64 i] ++ #[.pointer (some ⟨gb, 0, none⟩), .pointer (some ⟨sb, 0, none⟩)]) w fun e w' => e = .returned (.bool (decide (s < S i))) ∧ ∃ m, w' = w.drewN m := by
  have c5 : w.cell? ⟨gb, 5, none⟩ = some (.slice (some ⟨b, off, none⟩) n c) := hg.cell 5
  have cs : w.cell? ⟨sb, 0, none⟩ = some (.int .i64 s) := hs.cell 0
  have hi' : (i : Int) < n := by omega
  obtain ⟨c1, _⟩ := hr.here hi
  clear hr hg hs
  go_enter Try.func29, Try.ntmps29
  go_wp2_with fail
  go_quiet (fail)
  go_wp2_with fail
  go_ret
  exact ⟨rfl, _, rfl⟩
end Go.Proofs.Ytfddlodfmmnanaa
