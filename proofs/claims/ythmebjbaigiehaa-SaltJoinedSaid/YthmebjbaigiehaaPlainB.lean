/- Plain laws of mixing: another order, in two steps; and of a part that is split into two. No program in sight. -/
import Derived.Test.YthmebjbaigiehaaPlain
import Derived.Test.YthmebjbaigiehaaSane
namespace Go.Proofs.Ythmebjbaigiehaa
open Go.RowKit

theorem mixE_zero {n : Nat} {X Y : Nat → Int} (h : mixE n X Y = 0) : n ≤ 64 ∧ rtN X Y n = true ∧ (0 ≤ sm X n ∧ sm X n ≤ 1073741824) ∧ (0 ≤ sm Y n ∧ sm Y n ≤ 1073741824) := by
  unfold mixE at h
  split at h
  · omega
  split at h
  · rename_i h1 h2
    exact ⟨by omega, h2.1, inB_iff.1 h2.2.1, inB_iff.1 h2.2.2⟩
  · omega
theorem mixE_of {n : Nat} {X Y : Nat → Int} (h1 : n ≤ 64) (h2 : rtN X Y n = true) (h3 : sm X n ≤ 1073741824) (h4 : sm Y n ≤ 1073741824) : mixE n X Y = 0 := by
  have hX := sm_nonneg n fun k hk => (rt_iff.1 (rtN_at n h2 k hk)).1.1
  have hY := sm_nonneg n fun k hk => (rt_iff.1 (rtN_at n h2 k hk)).2.1.1
  rw [mixE, if_neg (by omega), if_pos ⟨h2, inB_iff.2 ⟨hX, h3⟩, inB_iff.2 ⟨hY, h4⟩⟩]
theorem sm_split (f : Nat → Int) (k : Nat) : ∀ m, sm f (k + m) = sm f k + sm (fun j => f (k + j)) m
  | 0 => by simp [sm]
  | m + 1 => by
    have h := sm_split f k m
    show sm f (k + m) + f (k + m) = sm f k + (sm (fun j => f (k + j)) m + f (k + m))
    omega
theorem sm_rev (f : Nat → Int) (n : Nat) : ∀ m, m ≤ n → sm (fun j => f (n - 1 - j)) m + sm f (n - m) = sm f n
  | 0, _ => by simp [sm]
  | m + 1, h => by
    have h1 := sm_rev f n m (by omega)
    have e : n - m = (n - (m + 1)) + 1 := by omega
    have e2 : n - 1 - m = n - (m + 1) := by omega
    rw [e] at h1
    simp only [sm] at h1 ⊢
    rw [e2]
    omega
theorem sm_back (f : Nat → Int) (n : Nat) : sm (fun j => f (n - 1 - j)) n = sm f n := by
  have := sm_rev f n n (Nat.le_refl _)
  simpa [sm] using this
theorem sm_zero {X Y : Nat → Int} : ∀ n, rtN X Y n = true → sm X n = 0 → sm Y n = 0
  | 0, _, _ => rfl
  | n + 1, h, hz => by
    simp only [rtN, Bool.and_eq_true] at h
    obtain ⟨h1, _, h2⟩ := rt_iff.1 h.2
    have h3 := sm_nonneg n fun k hk => (rt_iff.1 (rtN_at n h.1 k hk)).1.1
    simp only [sm] at hz ⊢
    have := sm_zero n h.1 (by omega)
    omega
theorem rtN_some {n : Nat} {X Y : Nat → Int} (h : mixE n X Y = 0) {m : Nat} {X' Y' : Nat → Int} (hk : ∀ k, k < m → ∃ j, j < n ∧ X' k = X j ∧ Y' k = Y j) : rtN X' Y' m = true := by
  obtain ⟨_, h2, _⟩ := mixE_zero h
  refine rtN_of m fun k hm => ?_
  obtain ⟨j, hj, e1, e2⟩ := hk k hm
  rw [e1, e2]
  exact rtN_at n h2 j hj
theorem rt_sums {m : Nat} {X Y : Nat → Int} (h : rtN X Y m = true) (hx : sm X m ≤ 1073741824) (hy : sm Y m ≤ 1073741824) : rt (sm X m) (sm Y m) = true := by
  have hX := sm_nonneg m fun k hk => (rt_iff.1 (rtN_at m h k hk)).1.1
  have hY := sm_nonneg m fun k hk => (rt_iff.1 (rtN_at m h k hk)).2.1.1
  refine rt_iff.2 ⟨⟨hX, hx⟩, ⟨hY, hy⟩, ?_⟩
  by_cases hz : sm X m = 0
  · exact .inr (sm_zero m h hz)
  · exact .inl (by omega)
section
variable {n : Nat} {X Y : Nat → Int} (h : mixE n X Y = 0)
include h
theorem mix_first {k : Nat} (hk : k ≤ n) : mixE k X Y = 0 := by
  obtain ⟨h1, h2, h3, h4⟩ := mixE_zero h
  have hx := sm_mono (f := X) n hk fun j hj => (rt_iff.1 (rtN_at n h2 j hj)).1.1
  have hy := sm_mono (f := Y) n hk fun j hj => (rt_iff.1 (rtN_at n h2 j hj)).2.1.1
  exact mixE_of (by omega) (rtN_some h fun j hj => ⟨j, by omega, rfl, rfl⟩) (by omega) (by omega)
theorem mix_rest {k : Nat} (hk : k ≤ n) : mixE (n - k) (fun j => X (k + j)) (fun j => Y (k + j)) = 0 := by
  obtain ⟨h1, h2, h3, h4⟩ := mixE_zero h
  obtain ⟨_, _, h5, h6⟩ := mixE_zero (mix_first h hk)
  have hx := sm_split X k (n - k)
  have hy := sm_split Y k (n - k)
  rw [Nat.add_sub_cancel' hk] at hx hy
  exact mixE_of (by omega) (rtN_some h fun j hj => ⟨k + j, by omega, rfl, rfl⟩) (by omega) (by omega)
theorem mix_back : mixE n (fun j => X (n - 1 - j)) (fun j => Y (n - 1 - j)) = 0 := by
  obtain ⟨h1, h2, h3, h4⟩ := mixE_zero h
  exact mixE_of h1 (rtN_some h fun j hj => ⟨n - 1 - j, by omega, rfl, rfl⟩) (by rw [sm_back]; omega) (by rw [sm_back]; omega)
theorem mix_two {k : Nat} (hk : k ≤ n) {a b c d : Int} (ha : a = sm X k) (hb : b = sm Y k) (hc : c = sm (fun j => X (k + j)) (n - k)) (hd : d = sm (fun j => Y (k + j)) (n - k)) :
    mixE 2 (two a c) (two b d) = 0 ∧ sm (two a c) 2 = sm X n ∧ sm (two b d) 2 = sm Y n := by
  obtain ⟨h1, h2, h3, h4⟩ := mixE_zero h
  obtain ⟨_, h5, h6, h7⟩ := mixE_zero (mix_first h hk)
  obtain ⟨_, h8, h9, h10⟩ := mixE_zero (mix_rest h hk)
  have hx := sm_split X k (n - k)
  have hy := sm_split Y k (n - k)
  rw [Nat.add_sub_cancel' hk] at hx hy
  have e1 : sm (two a c) 2 = a + c := by simp [sm, two]
  have e2 : sm (two b d) 2 = b + d := by simp [sm, two]
  refine ⟨mixE_of (by omega) (rtN_of 2 fun q hq => ?_) (by omega) (by omega), by omega, by omega⟩
  match q, hq with
  | 0, _ => subst ha; subst hb; exact rt_sums h5 (by omega) (by omega)
  | 1, _ => subst hc; subst hd; exact rt_sums h8 (by omega) (by omega)
end

/-! ### a part that is split into two -/
/-- the parts, with part k in two: a and the rest -/
def cutP (P : Nat → Int) (k : Nat) (a : Int) (j : Nat) : Int := if j < k then P j else if j = k then a else if j = k + 1 then P k - a else P (j - 1)
section
variable {P : Nat → Int} {k : Nat} {a : Int}
theorem cutP_lo {j : Nat} (h : j < k) : cutP P k a j = P j := if_pos h
theorem cutP_at : cutP P k a k = a := by simp [cutP]
theorem cutP_at1 : cutP P k a (k + 1) = P k - a := by rw [cutP, if_neg (by omega), if_neg (by omega), if_pos rfl]
theorem cutP_hi {j : Nat} (h : k < j) : cutP P k a (j + 1) = P j := by
  rw [cutP, if_neg (by omega), if_neg (by omega), if_neg (by omega), Nat.add_sub_cancel]
theorem cut_sm_lo : ∀ j, j ≤ k → sm (cutP P k a) j = sm P j
  | 0, _ => rfl
  | j + 1, h => by simp only [sm]; rw [cut_sm_lo j (by omega), cutP_lo (by omega)]
theorem cut_sm_hi : ∀ d, sm (cutP P k a) (k + 2 + d) = sm P (k + 1 + d)
  | 0 => by
    show sm (cutP P k a) k + cutP P k a k + cutP P k a (k + 1) = sm P k + P k
    rw [cut_sm_lo k (Nat.le_refl _), cutP_at, cutP_at1]; omega
  | d + 1 => by
    show sm (cutP P k a) (k + 2 + d) + cutP P k a (k + 2 + d) = sm P (k + 1 + d) + P (k + 1 + d)
    rw [cut_sm_hi d, show k + 2 + d = (k + 1 + d) + 1 by omega, cutP_hi (by omega)]
theorem cut_spl {L S : Int} {n : Nat} (h : splE L S n P = 0) (hn : n < 64) (hk : k < n) (h0 : 0 ≤ a) (ha : a ≤ P k) : splE L S (n + 1) (cutP P k a) = 0 := by
  obtain ⟨h1, h2, h3, h4⟩ := splE_zero h
  have hs : sm (cutP P k a) (n + 1) = L := by
    have := cut_sm_hi (P := P) (k := k) (a := a) (n - k - 1)
    rw [show k + 2 + (n - k - 1) = n + 1 by omega, show k + 1 + (n - k - 1) = n by omega] at this
    rw [this, h4]
  have hl : limB (cutP P k a) (n + 1) = true := limB_of _ fun j hj => by
    have hpk := h3 k hk
    unfold cutP
    split
    · exact h3 j (by omega)
    split
    · omega
    split
    · omega
    · exact h3 (j - 1) (by omega)
  rw [splE, if_neg (by omega), if_neg (by rw [h2]; simp), if_pos ⟨hl, hs⟩]
theorem cut_lo {L S : Int} {j : Nat} (h : j < k) : splS L S (cutP P k a) j = splS L S P j := by
  unfold splS
  rw [cut_sm_lo j (by omega), cut_sm_lo (j + 1) (by omega)]
theorem cut_hi {L S : Int} (d : Nat) : splS L S (cutP P k a) (k + 2 + d) = splS L S P (k + 1 + d) := by
  unfold splS
  rw [cut_sm_hi d, show k + 2 + d + 1 = k + 2 + (d + 1) by omega, cut_sm_hi (d + 1), show k + 1 + (d + 1) = k + 1 + d + 1 by omega]
theorem cut_two {L S : Int} : splS L S (cutP P k a) k + splS L S (cutP P k a) (k + 1) = splS L S P k := by
  unfold splS
  have h1 := cut_sm_lo (P := P) (k := k) (a := a) k (Nat.le_refl _)
  have h2 := cut_sm_hi (P := P) (k := k) (a := a) 0
  rw [show k + 1 + 1 = k + 2 + 0 by omega, h2, h1]
  split <;> simp <;> omega
end
end Go.Proofs.Ythmebjbaigiehaa
