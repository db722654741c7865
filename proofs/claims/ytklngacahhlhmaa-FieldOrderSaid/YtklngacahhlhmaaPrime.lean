/- Plain mathematics: 1073741789 is prime, and what is raised to two less than it is the inverse modulo it. No condition. -/
import Init
namespace Go.Proofs.Ytklngacahhlhmaa
namespace Pl

/-! ### the prime -/
def allR : Nat → Nat → Bool
  | 0, lo => decide (lo < 2) || decide (1073741789 % lo ≠ 0)
  | k + 1, lo => allR k lo && allR k (lo + 2 ^ k)

theorem allR_spec : ∀ (k lo d : Nat), allR k lo = true → lo ≤ d → d < lo + 2 ^ k → 2 ≤ d → 1073741789 % d ≠ 0
  | 0, lo, d, h, h1, h2, h3 => by
    have : d = lo := by simp at h2; omega
    subst this
    simp [allR] at h
    omega
  | k + 1, lo, d, h, h1, h2, h3 => by
    simp [allR] at h
    rw [Nat.pow_succ] at h2
    by_cases hd : d < lo + 2 ^ k
    · exact allR_spec k lo d h.1 h1 hd h3
    · exact allR_spec k (lo + 2 ^ k) d h.2 (by omega) (by omega) h3

theorem allR_true : allR 15 0 = true := by decide +kernel

theorem small_factor (d : Nat) (h2 : 2 ≤ d) (hd : d < 32768) : ¬ d ∣ 1073741789 := by
  intro h
  exact allR_spec 15 0 d allR_true (Nat.zero_le _) (by simpa using hd) h2 (Nat.mod_eq_zero_of_dvd h)

theorem primeQ (d : Nat) (h : d ∣ 1073741789) : d = 1 ∨ d = 1073741789 := by
  obtain ⟨e, he⟩ := h
  by_cases h1 : d = 1
  · exact .inl h1
  by_cases h2 : e = 1
  · right; subst h2; omega
  exfalso
  have hd0 : d ≠ 0 := by rintro rfl; simp at he
  have he0 : e ≠ 0 := by rintro rfl; simp at he
  by_cases hd : d < 32768
  · exact small_factor d (by omega) hd ⟨e, he⟩
  by_cases hee : e < 32768
  · exact small_factor e (by omega) hee ⟨d, by rw [Nat.mul_comm]; exact he⟩
  have : 32768 * 32768 ≤ d * e := Nat.mul_le_mul (by omega) (by omega)
  omega

theorem coprimeQ (k : Nat) (h : ¬ 1073741789 ∣ k) : Nat.Coprime 1073741789 k := by
  unfold Nat.Coprime
  rcases primeQ (Nat.gcd 1073741789 k) (Nat.gcd_dvd_left _ _) with h1 | h1
  · exact h1
  · exact absurd (h1 ▸ Nat.gcd_dvd_right 1073741789 k) h

/-! ### binomials -/
def ch : Nat → Nat → Nat
  | _, 0 => 1
  | 0, _ + 1 => 0
  | n + 1, k + 1 => ch n k + ch n (k + 1)

theorem ch_zero (n : Nat) : ch n 0 = 1 := by cases n <;> rfl
theorem ch_succ (n k : Nat) : ch (n + 1) (k + 1) = ch n k + ch n (k + 1) := rfl

theorem ch_gt : ∀ (n k : Nat), n < k → ch n k = 0
  | 0, k + 1, _ => rfl
  | n + 1, k + 1, h => by rw [ch_succ, ch_gt n k (by omega), ch_gt n (k + 1) (by omega)]

theorem ch_self : ∀ n, ch n n = 1
  | 0 => rfl
  | n + 1 => by rw [ch_succ, ch_self n, ch_gt n (n + 1) (by omega)]

theorem ch_mul : ∀ (n k : Nat), (n + 1) * ch n k = ch (n + 1) (k + 1) * (k + 1)
  | 0, 0 => rfl
  | 0, k + 1 => by simp [ch]
  | n + 1, 0 => by
    have h := ch_mul n 0
    rw [ch_succ (n + 1) 0]
    rw [ch_zero] at h ⊢
    omega
  | n + 1, k + 1 => by
    have h1 := ch_mul n k
    have h2 := ch_mul n (k + 1)
    rw [ch_succ (n + 1) (k + 1)]
    have e := ch_succ n k
    generalize ch (n + 1) (k + 1 + 1) = x at *
    generalize ch (n + 1) (k + 1) = y at *
    generalize ch n k = u at *
    generalize ch n (k + 1) = v at *
    grind

def bin (n : Nat) (a : Nat) : Nat → Nat
  | 0 => 0
  | m + 1 => bin n a m + ch n m * a ^ m

theorem bin_succ (n a : Nat) : ∀ m, bin (n + 1) a (m + 1) = bin n a (m + 1) + a * bin n a m
  | 0 => by simp [bin, ch_zero]
  | m + 1 => by
    have h := bin_succ n a m
    show bin (n + 1) a (m + 1) + ch (n + 1) (m + 1) * a ^ (m + 1) = (bin n a (m + 1) + ch n (m + 1) * a ^ (m + 1)) + a * (bin n a m + ch n m * a ^ m)
    rw [h, ch_succ, Nat.pow_succ]
    grind

theorem binom (a : Nat) : ∀ n, (a + 1) ^ n = bin n a (n + 1)
  | 0 => by simp [bin, ch_zero]
  | n + 1 => by
    rw [Nat.pow_succ, binom a n, bin_succ]
    show _ = (bin n a (n + 1) + ch n (n + 1) * a ^ (n + 1)) + _
    rw [ch_gt n (n + 1) (by omega)]
    grind

theorem ch_dvd (p : Nat) (hp : p = 1073741789) (k : Nat) (h0 : 0 < k) (h1 : k < p) : p ∣ ch p k := by
  obtain ⟨k, rfl⟩ : ∃ j, k = j + 1 := ⟨k - 1, by omega⟩
  obtain ⟨q, rfl⟩ : ∃ q, p = q + 1 := ⟨p - 1, by omega⟩
  have h := ch_mul q k
  have hc : Nat.Coprime (q + 1) (k + 1) := by
    rw [hp]
    refine coprimeQ _ fun hd => ?_
    have := Nat.le_of_dvd (by omega) hd
    omega
  exact hc.dvd_of_dvd_mul_right ⟨ch q k, by rw [← h]⟩

theorem bin_mod (p : Nat) (hp : p = 1073741789) (a : Nat) : ∀ m, m < p → bin p a (m + 1) % p = 1 % p
  | 0, _ => by simp [bin, ch_zero]
  | m + 1, h => by
    show (bin p a (m + 1) + ch p (m + 1) * a ^ (m + 1)) % p = 1 % p
    obtain ⟨c, hc⟩ := ch_dvd p hp (m + 1) (by omega) h
    rw [Nat.add_mod, bin_mod p hp a m (by omega), hc, Nat.mul_assoc, Nat.mul_mod_right]
    simp

theorem dream (p : Nat) (hp : p = 1073741789) (a : Nat) : (a + 1) ^ p % p = (a ^ p + 1) % p := by
  rw [binom]
  show (bin p a p + ch p p * a ^ p) % p = _
  rw [ch_self, Nat.add_mod]
  obtain ⟨q, hq⟩ : ∃ q, p = q + 1 := ⟨p - 1, by omega⟩
  have h := bin_mod p hp a q (by omega)
  rw [← hq] at h
  rw [h, ← Nat.add_mod, Nat.one_mul, Nat.add_comm]

theorem fermat (p : Nat) (hp : p = 1073741789) : ∀ a : Nat, a ^ p % p = a % p
  | 0 => by rw [Nat.zero_pow (by omega)]
  | a + 1 => by rw [dream p hp, Nat.add_mod, fermat p hp a, ← Nat.add_mod]


/-! ### congruence -/
def Cg (a b : Int) : Prop := ∃ c, a = b + 1073741789 * c

theorem Cg.refl (a : Int) : Cg a a := ⟨0, by omega⟩
theorem Cg.symm {a b : Int} (h : Cg a b) : Cg b a := by obtain ⟨c, h⟩ := h; exact ⟨-c, by omega⟩
theorem Cg.trans {a b c : Int} (h : Cg a b) (k : Cg b c) : Cg a c := by obtain ⟨x, h⟩ := h; obtain ⟨y, k⟩ := k; exact ⟨x + y, by omega⟩
theorem Cg.of_eq {a b : Int} (h : a = b) : Cg a b := h ▸ Cg.refl a
theorem Cg.add {a b c d : Int} (h : Cg a b) (k : Cg c d) : Cg (a + c) (b + d) := by obtain ⟨x, h⟩ := h; obtain ⟨y, k⟩ := k; exact ⟨x + y, by omega⟩
theorem Cg.sub {a b c d : Int} (h : Cg a b) (k : Cg c d) : Cg (a - c) (b - d) := by obtain ⟨x, h⟩ := h; obtain ⟨y, k⟩ := k; exact ⟨x - y, by omega⟩
theorem Cg.neg {a b : Int} (h : Cg a b) : Cg (-a) (-b) := by obtain ⟨x, h⟩ := h; exact ⟨-x, by omega⟩
theorem Cg.mul {a b c d : Int} (h : Cg a b) (k : Cg c d) : Cg (a * c) (b * d) := by
  obtain ⟨x, h⟩ := h; obtain ⟨y, k⟩ := k; exact ⟨x * d + b * y + 1073741789 * x * y, by subst h k; grind⟩
theorem Cg.pow {a b : Int} (h : Cg a b) : ∀ n : Nat, Cg (a ^ n) (b ^ n)
  | 0 => Cg.of_eq (by rw [Int.pow_zero, Int.pow_zero])
  | n + 1 => by rw [Int.pow_succ, Int.pow_succ]; exact (Cg.pow h n).mul h
theorem Cg.mod (a : Int) : Cg (a % 1073741789) a := ⟨-(a / 1073741789), by omega⟩
theorem cg_iff {a b : Int} : a % 1073741789 = b % 1073741789 ↔ Cg a b := by
  constructor
  · intro h; exact (Cg.mod a).symm.trans (h ▸ Cg.mod b)
  · rintro ⟨c, rfl⟩; omega
theorem Cg.eq {a b : Int} (h : Cg a b) : a % 1073741789 = b % 1073741789 := cg_iff.2 h
theorem cg_zero {a : Int} : Cg a 0 ↔ a % 1073741789 = 0 := by rw [← cg_iff]; simp

theorem mul_zero {a b : Int} (h : Cg (a * b) 0) : Cg a 0 ∨ Cg b 0 := by
  rw [cg_zero] at h
  have h1 : (1073741789 : Nat) ∣ a.natAbs * b.natAbs := by
    have := Int.natAbs_dvd_natAbs.2 (Int.dvd_of_emod_eq_zero h)
    rwa [Int.natAbs_mul] at this
  by_cases ha : (1073741789 : Nat) ∣ a.natAbs
  · left
    rw [cg_zero]
    exact Int.emod_eq_zero_of_dvd (Int.natAbs_dvd_natAbs.1 ha)
  · right
    rw [cg_zero]
    have := (coprimeQ _ ha).dvd_of_dvd_mul_left h1
    exact Int.emod_eq_zero_of_dvd (Int.natAbs_dvd_natAbs.1 this)

theorem fermatI (p : Nat) (hp : p = 1073741789) (a : Int) : Cg (a ^ p) a := by
  obtain ⟨m, hm⟩ : ∃ m : Nat, a % 1073741789 = m := ⟨(a % 1073741789).toNat, by have := Int.emod_nonneg a (b := 1073741789) (by decide); omega⟩
  have h1 : Cg a m := hm ▸ (Cg.mod a).symm
  refine ((h1.pow p).trans ?_).trans h1.symm
  have h2 := fermat p hp m
  have aux : ∀ x y : Nat, x % p = y % p → (x : Int) % 1073741789 = (y : Int) % 1073741789 := by
    intro x y h
    rw [hp] at h
    omega
  have h3 := aux _ _ h2
  rw [Int.natCast_pow] at h3
  exact cg_iff.1 h3

/-- the exponent of the inverse -/
def eQ : Nat := 1073741787
theorem eQ_two : eQ + 2 = 1073741789 := by decide
theorem eQ_pos : ∃ k, eQ = k + 1 := ⟨1073741786, by decide⟩
theorem eQ_cast : (1073741787 : Int) = (eQ : Nat) := by decide
attribute [irreducible] eQ

/-- the inverse; 0 for what stands for 0 -/
def inv (a : Int) : Int := a ^ eQ % 1073741789

theorem inv_mul {a : Int} (h : ¬ Cg a 0) : Cg (a * inv a) 1 := by
  have h1 := fermatI (eQ + 2) eQ_two a
  have h2 : Cg (a * (a * a ^ eQ - 1)) 0 := by
    have e : a * (a * a ^ eQ - 1) = a ^ (eQ + 2) - a := by
      rw [Int.pow_succ, Int.pow_succ]; grind
    rw [e]
    have := h1.sub (Cg.refl a)
    simpa using this
  rcases mul_zero h2 with h3 | h3
  · exact absurd h3 h
  · have h4 : Cg (a * a ^ eQ) 1 := by
      have := h3.add (Cg.refl 1)
      simpa using this
    exact ((Cg.refl a).mul (Cg.mod _)).trans h4

theorem cancel {a b c : Int} (h : ¬ Cg a 0) (k : Cg (a * b) (a * c)) : Cg b c := by
  have h1 : Cg (a * (b - c)) 0 := by
    have e : a * (b - c) = a * b - a * c := by grind
    rw [e]
    have := k.sub (Cg.refl (a * c))
    simpa using this
  rcases mul_zero h1 with h2 | h2
  · exact absurd h2 h
  · have := h2.add (Cg.refl c)
    simpa using this

theorem inv_cg {a b : Int} (h : Cg a b) : inv a = inv b := (h.pow eQ).eq
theorem inv_zero {a : Int} (h : Cg a 0) : inv a = 0 := by
  have := (h.pow eQ).eq
  unfold inv
  obtain ⟨k, hk⟩ := eQ_pos
  rw [this, hk, Int.pow_succ, Int.mul_zero]
  rfl
theorem inv_mulc (a b : Int) : Cg (inv (a * b)) (inv a * inv b) := by
  refine (Cg.mod _).trans ?_
  rw [Int.mul_pow]
  exact (Cg.mod _).symm.mul (Cg.mod _).symm
theorem inv_range (a : Int) : 0 ≤ inv a ∧ inv a < 1073741789 := by
  unfold inv
  exact ⟨Int.emod_nonneg _ (by decide), Int.emod_lt_of_pos _ (by decide)⟩
theorem one_ne : ¬ Cg 1 0 := by rw [cg_zero]; decide
theorem inv_eq {a x : Int} (h : ¬ Cg a 0) (hx : 0 ≤ x ∧ x < 1073741789) (h1 : Cg (a * x) 1) : inv a = x := by
  have h2 := (cancel h ((inv_mul h).trans h1.symm)).eq
  have h3 := inv_range a
  generalize inv a = y at *
  omega
theorem inv_one : inv 1 = 1 := inv_eq one_ne (by decide) (Cg.refl _)
theorem inv_two : inv 2 = 536870895 := inv_eq (by rw [cg_zero]; decide) (by decide) ⟨1, by decide⟩

end Pl
end Go.Proofs.Ytklngacahhlhmaa
