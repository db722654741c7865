/- Shares: the plain part; rows of integers that are written. -/
import Derived.Test.YtonkjnkokikpgaaGreatDiv
import Derived.Test.YtonkjnkokikpgaaGreatRobust
namespace Go.Proofs.YtonkjnkokikpgaaGreat
open Go.RowKit

/-- the sum of the first k numbers -/
def sumM (f : Nat → Nat) : Nat → Nat
  | 0 => 0
  | k + 1 => sumM f k + f k
theorem sumM_le (f : Nat → Nat) (B : Nat) : ∀ n, (∀ j, j < n → f j ≤ B) → sumM f n ≤ n * B
  | 0, _ => by simp [sumM]
  | n + 1, h => by
    have h1 := sumM_le f B n (fun j hj => h j (by omega))
    have h2 := h n (by omega)
    rw [sumM, Nat.succ_mul]
    omega
theorem sumM_mono (f : Nat → Nat) {k : Nat} : ∀ n, k ≤ n → sumM f k ≤ sumM f n
  | 0, h => by obtain rfl : k = 0 := by omega
               exact Nat.le_refl _
  | n + 1, h => by
    rcases Nat.eq_or_lt_of_le h with h | h
    · rw [h]; exact Nat.le_refl _
    · have := sumM_mono f n (by omega : k ≤ n)
      rw [sumM]; omega
theorem sumM_one (f : Nat → Nat) {k n : Nat} (h : k < n) : f k ≤ sumM f n := by
  have := sumM_mono f n (by omega : k + 1 ≤ n)
  rw [sumM] at this
  omega
/-- the whole part of a quota -/
def shQ (t S : Nat) (f : Nat → Nat) (j : Nat) : Nat := t * f j / S
theorem sh_bounds (t S : Nat) (f : Nat → Nat) (hS : 0 < S) : ∀ k, S * sumM (shQ t S f) k ≤ t * sumM f k ∧ t * sumM f k ≤ S * sumM (shQ t S f) k + k * S
  | 0 => by simp [sumM]
  | k + 1 => by
    obtain ⟨h1, h2⟩ := sh_bounds t S f hS k
    have h3 := Nat.div_add_mod (t * f k) S
    have h4 := Nat.mod_lt (t * f k) hS
    rw [sumM, sumM, Nat.mul_add, Nat.mul_add, Nat.succ_mul]
    unfold shQ at h1 h2 ⊢
    omega
theorem sh_left (t S n : Nat) (f : Nat → Nat) (hS : 0 < S) (h : sumM f n = S) : sumM (shQ t S f) n ≤ t ∧ t ≤ sumM (shQ t S f) n + n := by
  obtain ⟨h1, h2⟩ := sh_bounds t S f hS n
  rw [h, Nat.mul_comm t S] at h1 h2
  refine ⟨Nat.le_of_mul_le_mul_left h1 hS, ?_⟩
  rw [Nat.mul_comm n S, ← Nat.mul_add] at h2
  exact Nat.le_of_mul_le_mul_left h2 hS
/-- one number anew -/
def updI (f : Nat → Nat) (k x : Nat) (j : Nat) : Nat := if j = k then x else f j
theorem sumM_upd (f : Nat → Nat) (k x : Nat) : ∀ n, sumM (updI f k x) n + (if k < n then f k else 0) = sumM f n + (if k < n then x else 0)
  | 0 => by simp [sumM]
  | n + 1 => by
    have h := sumM_upd f k x n
    rw [sumM, sumM]
    by_cases e : n = k
    · subst e
      rw [if_neg (by omega), if_neg (by omega)] at h
      rw [if_pos (by omega), if_pos (by omega)]
      simp only [updI, if_pos]
      omega
    · have h5 : updI f k x n = f n := by unfold updI; rw [if_neg e]
      rw [h5]
      by_cases h6 : k < n
      · rw [if_pos h6, if_pos h6] at h
        rw [if_pos (by omega), if_pos (by omega)]
        omega
      · rw [if_neg h6, if_neg h6] at h
        rw [if_neg (by omega), if_neg (by omega)]
        omega
theorem sumM_add (f : Nat → Nat) {k n : Nat} (h : k < n) : sumM (updI f k (f k + 1)) n = sumM f n + 1 := by
  have := sumM_upd f k (f k + 1) n
  rw [if_pos h, if_pos h] at this
  omega
/-- a row of integers that is written -/
def RowN (W : World) (g n : Nat) (f : Nat → Nat) : Prop := ∃ cur, Blk W g 3 cur ∧ n ≤ cur.size ∧ ∀ j, j < n → cur[j]? = some (.int .i64 (f j))
theorem RowN.lt {W : World} {g n : Nat} {f : Nat → Nat} (h : RowN W g n f) : g < W.heap.size := by
  obtain ⟨cur, hb, _⟩ := h
  exact hb.lt
theorem RowN.rd {W : World} {g n : Nat} {f : Nat → Nat} (h : RowN W g n f) : Rd W W.heap.size (some ⟨g, 0, none⟩) n (fun j => .int .i64 (f j)) := fun _ => by
  obtain ⟨cur, hb, _, hc⟩ := h
  exact ⟨g, 0, rfl, hb.lt, fun j hj => by rw [hb.cell, Nat.zero_add]; exact hc j hj⟩
theorem RowN.below {W W' : World} {g n B : Nat} {f : Nat → Nat} (h : RowN W g n f) (hb' : Below B W W') (hg : g < B) : RowN W' g n f := by
  obtain ⟨cur, hb, h2, hc⟩ := h
  exact ⟨cur, hb.below hb' hg, h2, hc⟩
theorem RowN.set_ {W : World} {g n k : Nat} {f : Nat → Nat} (h : RowN W g n f) (hk : k < n) (x : Nat) : RowN (W.setCell ⟨g, k, none⟩ (.int .i64 x)) g n (updI f k x) := by
  obtain ⟨cur, hb, h2, hc⟩ := h
  refine ⟨_, hb.set_ _ _, by simpa using h2, fun j hj => ?_⟩
  unfold updI
  by_cases e : j = k
  · subst e
    rw [if_pos rfl]
    exact set_at _ (by omega)
  · rw [if_neg e, set_off _ (by omega)]
    exact hc j hj
theorem RowN.cell {W : World} {g n k : Nat} {f : Nat → Nat} (h : RowN W g n f) (hk : k < n) : W.cell? ⟨g, k, none⟩ = some (.int .i64 (f k)) ∧ W.frozen? ⟨g, k, none⟩ = false := by
  obtain ⟨cur, hb, h2, hc⟩ := h
  exact ⟨by rw [hb.cell]; exact hc k hk, hb.frozen _⟩
end Go.Proofs.YtonkjnkokikpgaaGreat
