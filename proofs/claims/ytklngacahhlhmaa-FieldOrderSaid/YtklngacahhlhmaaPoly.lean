/- Plain mathematics: polynomials and interpolation modulo the prime; a polynomial is determined by as many values as it has coefficients. No condition. -/
import Derived.Test.YtklngacahhlhmaaPrime
namespace Go.Proofs.Ytklngacahhlhmaa
namespace Pl

def sumN (f : Nat → Int) : Nat → Int
  | 0 => 0
  | k + 1 => sumN f k + f k

theorem sumN_cg {f g : Nat → Int} : ∀ n, (∀ k, k < n → Cg (f k) (g k)) → Cg (sumN f n) (sumN g n)
  | 0, _ => Cg.refl _
  | n + 1, h => (sumN_cg n fun k hk => h k (by omega)).add (h n (by omega))

theorem sumN_one {f : Nat → Int} {j : Nat} : ∀ n, (∀ k, k < n → k ≠ j → Cg (f k) 0) → Cg (sumN f n) (if j < n then f j else 0)
  | 0, _ => by simp [sumN, Cg.refl]
  | n + 1, h => by
    have ih := sumN_one (f := f) (j := j) n fun k hk hj => h k (by omega) hj
    show Cg (sumN f n + f n) _
    by_cases hj : n = j
    · subst hj
      rw [if_neg (by omega)] at ih
      rw [if_pos (by omega)]
      have := ih.add (Cg.refl (f n))
      simpa using this
    · have h1 := ih.add (h n (by omega) hj)
      by_cases h2 : j < n
      · rw [if_pos h2] at h1; rw [if_pos (by omega)]; simpa using h1
      · rw [if_neg h2] at h1; rw [if_neg (by omega)]; simpa using h1

/-- product of g k, k < n, k ≠ i -/
def prodN (i : Nat) (g : Nat → Int) : Nat → Int
  | 0 => 1
  | k + 1 => if k = i then prodN i g k else prodN i g k * g k

theorem prodN_pass {i n : Nat} {g : Nat → Int} (e : n = i) : prodN i g (n + 1) = prodN i g n := by simp only [prodN, e, if_true]
theorem prodN_take {i n : Nat} {g : Nat → Int} (e : n ≠ i) : prodN i g (n + 1) = prodN i g n * g n := by simp only [prodN, e, if_false]

theorem prodN_mul (i : Nat) (g h : Nat → Int) : ∀ n, prodN i (fun k => g k * h k) n = prodN i g n * prodN i h n
  | 0 => rfl
  | n + 1 => by
    have ih := prodN_mul i g h n
    by_cases e : n = i
    · rw [prodN_pass e, prodN_pass e, prodN_pass e, ih]
    · rw [prodN_take e, prodN_take e, prodN_take e, ih]; grind

theorem prodN_cg (i : Nat) {g h : Nat → Int} : ∀ n, (∀ k, k < n → k ≠ i → Cg (g k) (h k)) → Cg (prodN i g n) (prodN i h n)
  | 0, _ => Cg.refl _
  | n + 1, hh => by
    have ih := prodN_cg i n fun k hk hi => hh k (by omega) hi
    by_cases e : n = i
    · rw [prodN_pass e, prodN_pass e]; exact ih
    · rw [prodN_take e, prodN_take e]; exact ih.mul (hh n (by omega) e)

theorem prodN_inv (i : Nat) (g : Nat → Int) : ∀ n, Cg (inv (prodN i g n)) (prodN i (fun k => inv (g k)) n)
  | 0 => by show Cg (inv 1) 1; rw [inv_one]; exact Cg.refl _
  | n + 1 => by
    have ih := prodN_inv i g n
    by_cases e : n = i
    · rw [prodN_pass e, prodN_pass e]; exact ih
    · rw [prodN_take e, prodN_take e]; exact (inv_mulc _ _).trans (ih.mul (Cg.refl _))

theorem prodN_zero (i j : Nat) (g : Nat → Int) (hj : j ≠ i) (h : Cg (g j) 0) : ∀ n, j < n → Cg (prodN i g n) 0
  | n + 1, hn => by
    by_cases e : n = i
    · rw [prodN_pass e]; exact prodN_zero i j g hj h n (by omega)
    · rw [prodN_take e]
      by_cases h2 : j = n
      · subst h2
        have := (Cg.refl (prodN i g j)).mul h
        simpa using this
      · have ih := prodN_zero i j g hj h n (by omega)
        have := ih.mul (Cg.refl (g n))
        simpa using this

theorem prodN_nz (i : Nat) (g : Nat → Int) : ∀ n, (∀ k, k < n → k ≠ i → ¬ Cg (g k) 0) → ¬ Cg (prodN i g n) 0
  | 0, _ => one_ne
  | n + 1, h => by
    have ih := prodN_nz i g n fun k hk hi => h k (by omega) hi
    by_cases e : n = i
    · rw [prodN_pass e]; exact ih
    · rw [prodN_take e]
      intro h0
      rcases mul_zero h0 with h1 | h1
      · exact ih h1
      · exact h n (by omega) e h1

/-- the value of a polynomial, by coefficients -/
def ev : List Int → Int → Int
  | [], _ => 0
  | c :: p, t => c + t * ev p t

def addL : List Int → List Int → List Int
  | [], q => q
  | c :: p, [] => c :: p
  | c :: p, d :: q => (c + d) :: addL p q

theorem addL_len : ∀ p q, (addL p q).length = max p.length q.length
  | [], q => by simp [addL]
  | c :: p, [] => by simp [addL]
  | c :: p, d :: q => by simp [addL, addL_len p q]

theorem ev_add (t : Int) : ∀ p q, ev (addL p q) t = ev p t + ev q t
  | [], q => by simp [addL, ev]
  | c :: p, [] => by simp [addL, ev]
  | c :: p, d :: q => by simp [addL, ev, ev_add t p q]; grind

theorem ev_smul (a t : Int) : ∀ p, ev (p.map (a * ·)) t = a * ev p t
  | [] => by simp [ev]
  | c :: p => by simp only [List.map_cons, ev, ev_smul a t p]; grind

/-- f is, modulo the prime, a polynomial of at most n coefficients -/
def IsP (n : Nat) (f : Int → Int) : Prop := ∃ p : List Int, p.length ≤ n ∧ ∀ t, Cg (f t) (ev p t)

theorem IsP.mono {n m : Nat} {f : Int → Int} (h : IsP n f) (hm : n ≤ m) : IsP m f := by
  obtain ⟨p, h1, h2⟩ := h; exact ⟨p, by omega, h2⟩
theorem IsP.add {n : Nat} {f g : Int → Int} (h : IsP n f) (k : IsP n g) : IsP n (fun t => f t + g t) := by
  obtain ⟨p, h1, h2⟩ := h; obtain ⟨q, k1, k2⟩ := k
  exact ⟨addL p q, by rw [addL_len]; omega, fun t => by rw [ev_add]; exact (h2 t).add (k2 t)⟩
theorem IsP.smul {n : Nat} {f : Int → Int} (a : Int) (h : IsP n f) : IsP n (fun t => a * f t) := by
  obtain ⟨p, h1, h2⟩ := h
  exact ⟨p.map (a * ·), by simpa using h1, fun t => by rw [ev_smul]; exact (Cg.refl a).mul (h2 t)⟩
theorem IsP.shift {n : Nat} {f : Int → Int} (h : IsP n f) : IsP (n + 1) (fun t => t * f t) := by
  obtain ⟨p, h1, h2⟩ := h
  exact ⟨0 :: p, by simpa using h1, fun t => by
    have := (Cg.refl t).mul (h2 t)
    simpa [ev] using this⟩
theorem IsP.congr {n : Nat} {f g : Int → Int} (h : IsP n f) (k : ∀ t, Cg (g t) (f t)) : IsP n g := by
  obtain ⟨p, h1, h2⟩ := h; exact ⟨p, h1, fun t => (k t).trans (h2 t)⟩
theorem IsP.lin {n : Nat} {f : Int → Int} (r : Int) (h : IsP n f) : IsP (n + 1) (fun t => f t * (t - r)) :=
  (h.shift.add ((h.mono (Nat.le_succ n)).smul (-r))).congr fun t => Cg.of_eq (by grind)
theorem IsP.sub {n : Nat} {f g : Int → Int} (h : IsP n f) (k : IsP n g) : IsP n (fun t => f t - g t) :=
  (h.add (k.smul (-1))).congr fun t => Cg.of_eq (by grind)
theorem IsP.zero (n : Nat) : IsP n (fun _ => 0) := ⟨[], by simp, fun _ => Cg.refl _⟩

/-- synthetic division by (t - r) -/
def dv (r : Int) : List Int → List Int
  | [] => []
  | _ :: p => match p with
    | [] => []
    | d :: q => ev (d :: q) r :: dv r (d :: q)

theorem dv_len (r : Int) : ∀ p, (dv r p).length = p.length - 1
  | [] => rfl
  | [_] => rfl
  | _ :: d :: q => by
    show (ev (d :: q) r :: dv r (d :: q)).length = _
    simp [dv_len r (d :: q)]

theorem ev_dv (r t : Int) : ∀ p, ev p t - ev p r = (t - r) * ev (dv r p) t
  | [] => by simp [ev, dv]
  | [c] => by simp [ev, dv]
  | c :: d :: q => by
    have ih := ev_dv r t (d :: q)
    show (c + t * ev (d :: q) t) - (c + r * ev (d :: q) r) = (t - r) * (ev (d :: q) r + t * ev (dv r (d :: q)) t)
    generalize ev (d :: q) t = x at *
    generalize ev (d :: q) r = y at *
    generalize ev (dv r (d :: q)) t = z at *
    grind

def Dist (n : Nat) (X : Nat → Int) : Prop := ∀ i k, i < n → k < i → ¬ Cg (X i) (X k)

theorem Dist.ne {n : Nat} {X : Nat → Int} (h : Dist n X) {i k : Nat} (hi : i < n) (hk : k < n) (e : i ≠ k) : ¬ Cg (X i - X k) 0 := by
  intro h0
  have h1 : Cg (X i) (X k) := by
    have := h0.add (Cg.refl (X k))
    simpa using this
  by_cases hlt : k < i
  · exact h i k hi hlt h1
  · exact h k i hk (by omega) h1.symm

theorem roots (X : Nat → Int) : ∀ (n : Nat) (p : List Int), p.length ≤ n → Dist n X → (∀ i, i < n → Cg (ev p (X i)) 0) → ∀ t, Cg (ev p t) 0
  | 0, p, h, _, _, t => by
    have : p = [] := List.eq_nil_of_length_eq_zero (by omega)
    subst this
    exact Cg.refl _
  | n + 1, p, h, hd, hz, t => by
    have h0 := hz n (by omega)
    have hq : ∀ i, i < n → Cg (ev (dv (X n) p) (X i)) 0 := by
      intro i hi
      have e := ev_dv (X n) (X i) p
      have h1 : Cg ((X i - X n) * ev (dv (X n) p) (X i)) 0 := by
        rw [← e]
        have := (hz i (by omega)).sub h0
        simpa using this
      rcases mul_zero h1 with h2 | h2
      · exact absurd h2 (hd.ne (by omega) (by omega) (by omega))
      · exact h2
    have ih := roots X n (dv (X n) p) (by rw [dv_len]; omega) (fun i k hi hk => hd i k (by omega) hk) hq t
    have e := ev_dv (X n) t p
    have h3 : Cg (ev p t - ev p (X n)) 0 := by
      rw [e]
      have := (Cg.refl (t - X n)).mul ih
      simpa using this
    have := h3.add h0
    simpa using this

theorem unique {n : Nat} {X : Nat → Int} (hd : Dist n X) {f g : Int → Int} (hf : IsP n f) (hg : IsP n g) (h : ∀ i, i < n → Cg (f (X i)) (g (X i))) (t : Int) : Cg (f t) (g t) := by
  obtain ⟨p, hp, h1⟩ := hf.sub hg
  have h2 := roots X n p hp hd (fun i hi => (h1 (X i)).symm.trans (by
    have := (h i hi).sub (Cg.refl (g (X i)))
    simpa using this)) t
  have := ((h1 t).trans h2).add (Cg.refl (g t))
  simpa using this

/-- the interpolation -/
def lagr (n : Nat) (X Y : Nat → Int) (t : Int) : Int :=
  sumN (fun i => Y i * prodN i (fun k => t - X k) n * inv (prodN i (fun k => X i - X k) n)) n

theorem prodN_isP (i : Nat) (X : Nat → Int) : ∀ n, IsP (if i < n then n else n + 1) (fun t => prodN i (fun k => t - X k) n)
  | 0 => ⟨[1], by simp, fun t => Cg.of_eq (by simp [prodN, ev])⟩
  | n + 1 => by
    have ih := prodN_isP i X n
    by_cases e : n = i
    · subst e
      rw [if_neg (by omega)] at ih
      rw [if_pos (by omega)]
      simpa [prodN] using ih
    · have h1 := ih.lin (X n)
      by_cases h2 : i < n
      · rw [if_pos h2] at h1; rw [if_pos (by omega)]; simpa [prodN, e] using h1
      · rw [if_neg h2] at h1; rw [if_neg (by omega)]; simpa [prodN, e] using h1

theorem sumN_isP (n : Nat) (F : Nat → Int → Int) : ∀ m, (∀ i, i < m → IsP n (F i)) → IsP n (fun t => sumN (fun i => F i t) m)
  | 0, _ => IsP.zero n
  | m + 1, h => (sumN_isP n F m fun i hi => h i (by omega)).add (h m (by omega))

theorem lagr_isP (n : Nat) (X Y : Nat → Int) : IsP n (lagr n X Y) := by
  refine sumN_isP n (fun i t => Y i * prodN i (fun k => t - X k) n * inv (prodN i (fun k => X i - X k) n)) n fun i hi => ?_
  have h := prodN_isP i X n
  rw [if_pos hi] at h
  exact (h.smul (Y i * inv (prodN i (fun k => X i - X k) n))).congr fun t => Cg.of_eq (by grind)

theorem lagr_at {n : Nat} {X : Nat → Int} (Y : Nat → Int) (hd : Dist n X) {j : Nat} (hj : j < n) : Cg (lagr n X Y (X j)) (Y j) := by
  have h := sumN_one (f := fun i => Y i * prodN i (fun k => X j - X k) n * inv (prodN i (fun k => X i - X k) n)) (j := j) n (fun i hi hne => by
    have h0 : Cg (X j - X j) 0 := Cg.of_eq (by omega)
    have h1 := prodN_zero i j (fun k => X j - X k) (fun e => hne e.symm) h0 n hj
    have := ((Cg.refl (Y i)).mul h1).mul (Cg.refl (inv (prodN i (fun k => X i - X k) n)))
    simpa using this)
  rw [if_pos hj] at h
  refine Cg.trans h ?_
  have h2 := inv_mul (prodN_nz j (fun k => X j - X k) n fun k hk hne => hd.ne hj hk (fun e => hne e.symm))
  have h3 := (Cg.refl (Y j)).mul h2
  refine Cg.trans (Cg.of_eq ?_) (h3.trans (Cg.of_eq (by omega)))
  grind

end Pl
end Go.Proofs.Ytklngacahhlhmaa
