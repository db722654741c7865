/- What the functions on precedents compute, in plain words: sets of factors as lists and as bits. Plain laws; no program in sight. -/
import Derived.Test.YtbojjhdcmogjdaaBase
import Derived.Laws.BitsAllLaws
namespace Go.Proofs.Ytbojjhdcmogjdaa
open Go.RowKit

def inB (most a : Int) : Bool := decide (0 ≤ a) && decide (a ≤ most)
theorem inB_iff {most a : Int} : inB most a = true ↔ 0 ≤ a ∧ a ≤ most := by simp [inB]
theorem inB_not {most a : Int} : inB most a = false ↔ a < 0 ∨ most < a := by
  rw [Bool.eq_false_iff, Ne, inB_iff]; omega

/-- is f k a fit next factor: it is in bounds and greater than the one before -/
def fitB (M : Int) (f : Nat → Int) (k : Nat) : Bool := (decide (0 ≤ f k) && decide (f k < M)) && (decide (k = 0) || decide (f (k - 1) < f k))
theorem fitB_iff {M : Int} {f : Nat → Int} {k : Nat} : fitB M f k = true ↔ (0 ≤ f k ∧ f k < M) ∧ (k = 0 ∨ f (k - 1) < f k) := by simp [fitB]
/-- are the first factors a set: rising, and below M -/
def okS (M : Int) (f : Nat → Int) : Nat → Bool
  | 0 => true
  | k + 1 => okS M f k && fitB M f k
theorem okS_bad {M : Int} {f : Nat → Int} {k : Nat} (h : fitB M f k = false) : ∀ n, k < n → okS M f n = false
  | 0, hn => absurd hn (by omega)
  | n + 1, hn => by
    by_cases e : k = n
    · subst e; simp [okS, h]
    · simp [okS, okS_bad h n (by omega)]
theorem okS_at {M : Int} {f : Nat → Int} : ∀ n, okS M f n = true → ∀ k, k < n → (0 ≤ f k ∧ f k < M) ∧ (k = 0 ∨ f (k - 1) < f k)
  | 0, _, k, hk => absurd hk (by omega)
  | n + 1, h, k, hk => by
    simp only [okS, Bool.and_eq_true] at h
    by_cases e : k = n
    · subst e; exact fitB_iff.1 h.2
    · exact okS_at n h.1 k (by omega)
theorem okS_of {M : Int} {f : Nat → Int} (n : Nat) (h : ∀ k, k < n → (0 ≤ f k ∧ f k < M) ∧ (k = 0 ∨ f (k - 1) < f k)) : okS M f n = true := by
  induction n with
  | zero => rfl
  | succ n ih => rw [okS, ih (fun k hk => h k (by omega)), fitB_iff.2 (h n (by omega))]; rfl
/-- the factors of a set rise -/
theorem okS_lt {M : Int} {f : Nat → Int} {n : Nat} (h : okS M f n = true) : ∀ j k, j < k → k < n → f j < f k
  | j, 0, hj, _ => absurd hj (by omega)
  | j, k + 1, hj, hk => by
    have h1 := (okS_at n h (k + 1) hk).2.resolve_left (by omega)
    rw [Nat.add_sub_cancel] at h1
    by_cases e : j = k
    · subst e; exact h1
    · have := okS_lt h j k (by omega) (by omega); omega
/-- a set has no more factors than there are -/
theorem okS_len {M : Int} {f : Nat → Int} {n : Nat} (hM : 0 ≤ M) (h : okS M f n = true) : (n : Int) ≤ M := by
  have key : ∀ k, k < n → (k : Int) ≤ f k := by
    intro k
    induction k with
    | zero => intro hk; have := (okS_at n h 0 hk).1.1; omega
    | succ k ih =>
      intro hk
      have h1 := ih (by omega)
      have h2 := okS_lt h k (k + 1) (by omega) hk
      omega
  cases n with
  | zero => exact hM
  | succ n => have h1 := key n (by omega); have h2 := (okS_at _ h n (by omega)).1.2; omega

/-- is a number among the first ones? -/
def hasB (f : Nat → Int) (x : Int) : Nat → Bool
  | 0 => false
  | k + 1 => hasB f x k || decide (f k = x)
theorem hasB_iff {f : Nat → Int} {x : Int} : ∀ n, hasB f x n = true ↔ ∃ k, k < n ∧ f k = x
  | 0 => by simp [hasB]
  | n + 1 => by
    rw [hasB, Bool.or_eq_true, hasB_iff n, decide_eq_true_eq]
    constructor
    · rintro (⟨k, hk, e⟩ | e)
      · exact ⟨k, by omega, e⟩
      · exact ⟨n, by omega, e⟩
    · rintro ⟨k, hk, e⟩
      by_cases h : k = n
      · subst h; exact .inr e
      · exact .inl ⟨k, by omega, e⟩
theorem hasB_none {f : Nat → Int} {x : Int} (n : Nat) (h : ∀ k, k < n → f k ≠ x) : hasB f x n = false := by
  rw [Bool.eq_false_iff, Ne, hasB_iff]
  rintro ⟨k, hk, e⟩
  exact h k hk e
/-- are the first n numbers of f all among the first m of g? -/
def allB (f g : Nat → Int) (m : Nat) : Nat → Bool
  | 0 => true
  | k + 1 => allB f g m k && hasB g (f k) m
theorem allB_iff {f g : Nat → Int} {m : Nat} : ∀ n, allB f g m n = true ↔ ∀ k, k < n → hasB g (f k) m = true
  | 0 => by simp [allB]
  | n + 1 => by
    rw [allB, Bool.and_eq_true, allB_iff n]
    constructor
    · rintro ⟨h1, h2⟩ k hk
      by_cases h : k = n
      · subst h; exact h2
      · exact h1 k (by omega)
    · exact fun h => ⟨fun k hk => h k (by omega), h n (by omega)⟩
theorem allB_bad {f g : Nat → Int} {m k : Nat} (h : hasB g (f k) m = false) (n : Nat) (hk : k < n) : allB f g m n = false := by
  rw [Bool.eq_false_iff, Ne, allB_iff]
  intro h1
  rw [h1 k hk] at h
  cases h
/-- do the first n factors all favour a side? -/
def sideB (S f : Nat → Int) (x : Int) : Nat → Bool
  | 0 => true
  | k + 1 => sideB S f x k && decide (S (f k).toNat = x)
theorem sideB_iff {S f : Nat → Int} {x : Int} : ∀ n, sideB S f x n = true ↔ ∀ k, k < n → S (f k).toNat = x
  | 0 => by simp [sideB]
  | n + 1 => by
    rw [sideB, Bool.and_eq_true, sideB_iff n, decide_eq_true_eq]
    constructor
    · rintro ⟨h1, h2⟩ k hk
      by_cases h : k = n
      · subst h; exact h2
      · exact h1 k (by omega)
    · exact fun h => ⟨fun k hk => h k (by omega), h n (by omega)⟩
theorem sideB_bad {S f : Nat → Int} {x : Int} {k : Nat} (h : S (f k).toNat ≠ x) (n : Nat) (hk : k < n) : sideB S f x n = false := by
  rw [Bool.eq_false_iff, Ne, sideB_iff]
  exact fun h1 => h (h1 k hk)
/-- is R a reason for side x, of the facts F? -/
def reaB (S : Nat → Int) (sn : Nat) (F : Nat → Int) (fn : Nat) (R : Nat → Int) (rn : Nat) (x : Int) : Bool := (okS sn R rn && allB R F fn rn) && sideB S R x rn

/-! ### sets as bits -/
/-- the bits of the first factors -/
def mask (f : Nat → Int) : Nat → Nat
  | 0 => 0
  | k + 1 => mask f k ||| 2 ^ (f k).toNat
/-- the bits of the factors that favour a side -/
def fav (S : Nat → Int) (x : Int) : Nat → Nat
  | 0 => 0
  | k + 1 => if S k = x then fav S x k ||| 2 ^ k else fav S x k
theorem two_pow_le {a b : Nat} (h : a < b) : 2 ^ a < 2 ^ b := Nat.pow_lt_pow_right (by omega) h
theorem mask_lt {M : Nat} {f : Nat → Int} : ∀ n, (∀ k, k < n → 0 ≤ f k ∧ f k < M) → mask f n < 2 ^ M
  | 0, _ => Nat.two_pow_pos M
  | n + 1, h => Nat.or_lt_two_pow (mask_lt n fun k hk => h k (by omega)) (two_pow_le (by have := h n (by omega); omega))
theorem fav_lt {S : Nat → Int} {x : Int} : ∀ n, fav S x n < 2 ^ n
  | 0 => Nat.one_pos
  | n + 1 => by
    have h1 : fav S x n < 2 ^ (n + 1) := Nat.lt_trans (fav_lt n) (two_pow_le (by omega))
    unfold fav
    split
    · exact Nat.or_lt_two_pow h1 (two_pow_le (by omega))
    · exact h1
theorem pow_bit (a i : Nat) : (2 ^ a).testBit i = decide (a = i) := by rw [Nat.testBit_two_pow]
theorem mask_bit {f : Nat → Int} : ∀ n, (∀ k, k < n → 0 ≤ f k) → ∀ i, (mask f n).testBit i = hasB f i n
  | 0, _, i => by simp [mask, hasB]
  | n + 1, h, i => by
    rw [mask, hasB, Nat.testBit_or, mask_bit n (fun k hk => h k (by omega)) i, pow_bit]
    have := h n (by omega)
    congr 1
    rw [decide_eq_decide]; omega
theorem fav_bit {S : Nat → Int} {x : Int} : ∀ n i, (fav S x n).testBit i = (decide (i < n) && decide (S i = x))
  | 0, i => by simp [fav]
  | n + 1, i => by
    unfold fav
    by_cases hi : i = n
    · subst hi
      by_cases h : S i = x
      · rw [if_pos h, Nat.testBit_or, pow_bit]; simp [h]
      · rw [if_neg h, fav_bit i i]; simp [h]
    · split
      · rw [Nat.testBit_or, fav_bit n i, pow_bit, decide_eq_false (show ¬ n = i by omega), Bool.or_false]
        congr 1
        rw [decide_eq_decide]; omega
      · rw [fav_bit n i]
        congr 1
        rw [decide_eq_decide]; omega
/-- is each bit of a one of b? -/
def subB (a b : Nat) : Bool := decide (a &&& (18446744073709551615 - b) = 0)
theorem subB_iff {a b : Nat} (ha : a < 2 ^ 64) (hb : b < 2 ^ 64) : subB a b = true ↔ ∀ i, a.testBit i = true → b.testBit i = true := by
  have e : 18446744073709551615 - b = 2 ^ 64 - (b + 1) := by omega
  have hc : ∀ i, (a &&& (18446744073709551615 - b)).testBit i = (a.testBit i && (decide (i < 64) && !b.testBit i)) := fun i => by
    rw [Nat.testBit_and, e, Nat.testBit_two_pow_sub_succ hb]
  rw [subB, decide_eq_true_eq]
  constructor
  · intro h i hi
    have h1 := hc i
    rw [h, Nat.zero_testBit, hi] at h1
    have h64 : i < 64 := by
      rcases Nat.lt_or_ge i 64 with h2 | h2
      · exact h2
      · rw [Nat.testBit_lt_two_pow (Nat.lt_of_lt_of_le ha (Nat.pow_le_pow_right (by omega) h2))] at hi; cases hi
    simpa [h64] using h1.symm
  · intro h
    apply Nat.eq_of_testBit_eq
    intro i
    rw [hc i, Nat.zero_testBit]
    cases h1 : a.testBit i with
    | false => rfl
    | true => simp [h i h1]
/-- a reason, as bits -/
theorem rea_bits {S F R : Nat → Int} {sn fn rn : Nat} {x : Int} (hs : sn ≤ 32) (hF : okS sn F fn = true) (hR : okS sn R rn = true) : subB (mask R rn) (mask F fn &&& fav S x sn) = (allB R F fn rn && sideB S R x rn) := by
  have hF0 := fun k hk => (okS_at fn hF k hk).1
  have hR0 := fun k hk => (okS_at rn hR k hk).1
  have l1 : mask R rn < 2 ^ 64 := Nat.lt_of_lt_of_le (mask_lt rn hR0) (Nat.pow_le_pow_right (by omega) (by omega))
  have l2 : mask F fn < 2 ^ 64 := Nat.lt_of_lt_of_le (mask_lt fn hF0) (Nat.pow_le_pow_right (by omega) (by omega))
  have l3 : mask F fn &&& fav S x sn < 2 ^ 64 := Nat.lt_of_le_of_lt Nat.and_le_left l2
  rw [Bool.eq_iff_iff, subB_iff l1 l3, Bool.and_eq_true, allB_iff, sideB_iff]
  constructor
  · intro h
    have key : ∀ k, k < rn → hasB F (R k) fn = true ∧ S (R k).toNat = x := fun k hk => by
      have h1 := h (R k).toNat (by rw [mask_bit rn (fun j hj => (hR0 j hj).1), hasB_iff]; exact ⟨k, hk, by have := (hR0 k hk).1; omega⟩)
      rw [Nat.testBit_and, Bool.and_eq_true, mask_bit fn (fun j hj => (hF0 j hj).1), fav_bit, Bool.and_eq_true, decide_eq_true_eq, decide_eq_true_eq] at h1
      refine ⟨?_, h1.2.2⟩
      have e : (((R k).toNat : Nat) : Int) = R k := by have := (hR0 k hk).1; omega
      rw [e] at h1
      exact h1.1
    exact ⟨fun k hk => (key k hk).1, fun k hk => (key k hk).2⟩
  · rintro ⟨h1, h2⟩ i hi
    rw [mask_bit rn (fun j hj => (hR0 j hj).1), hasB_iff] at hi
    obtain ⟨k, hk, e⟩ := hi
    have h3 := h1 k hk
    have h4 := h2 k hk
    have h5 := (hR0 k hk).2
    rw [Nat.testBit_and, Bool.and_eq_true, mask_bit fn (fun j hj => (hF0 j hj).1), fav_bit, Bool.and_eq_true, decide_eq_true_eq, decide_eq_true_eq]
    rw [e] at h3 h4
    exact ⟨h3, by omega, h4⟩
/-- a list in another one, as bits -/
theorem all_bits {F R : Nat → Int} {sn fn rn : Nat} (hs : sn ≤ 32) (hF : okS sn F fn = true) (hR : okS sn R rn = true) : subB (mask R rn) (mask F fn) = allB R F fn rn := by
  have hF0 := fun k hk => (okS_at fn hF k hk).1
  have hR0 := fun k hk => (okS_at rn hR k hk).1
  have l1 : mask R rn < 2 ^ 64 := Nat.lt_of_lt_of_le (mask_lt rn hR0) (Nat.pow_le_pow_right (by omega) (by omega))
  have l2 : mask F fn < 2 ^ 64 := Nat.lt_of_lt_of_le (mask_lt fn hF0) (Nat.pow_le_pow_right (by omega) (by omega))
  rw [Bool.eq_iff_iff, subB_iff l1 l2, allB_iff]
  constructor
  · intro h k hk
    have e : (((R k).toNat : Nat) : Int) = R k := by have := (hR0 k hk).1; omega
    have h1 := h (R k).toNat (by rw [mask_bit rn (fun j hj => (hR0 j hj).1), hasB_iff]; exact ⟨k, hk, e.symm⟩)
    rw [mask_bit fn (fun j hj => (hF0 j hj).1), e] at h1
    exact h1
  · intro h1 i hi
    rw [mask_bit rn (fun j hj => (hR0 j hj).1), hasB_iff] at hi
    obtain ⟨k, hk, e⟩ := hi
    rw [mask_bit fn (fun j hj => (hF0 j hj).1), ← e]
    exact h1 k hk
end Go.Proofs.Ytbojjhdcmogjdaa
