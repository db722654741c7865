/- What the functions on salt compute, in plain words. Plain laws. -/
import Derived.Test.YthmebjbaigiehaaPair
namespace Go.Proofs.Ythmebjbaigiehaa
open Go.RowKit

def inB (most a : Int) : Bool := decide (0 ≤ a) && decide (a ≤ most)
theorem inB_iff {most a : Int} : inB most a = true ↔ 0 ≤ a ∧ a ≤ most := by simp [inB]
theorem inB_not {most a : Int} : inB most a = false ↔ a < 0 ∨ most < a := by
  rw [Bool.eq_false_iff, Ne, inB_iff]; omega
/-- all numbers are from 0 to 2^30 -/
def limB (f : Nat → Int) : Nat → Bool
  | 0 => true
  | k + 1 => limB f k && inB 1073741824 (f k)
theorem limB_bad {f : Nat → Int} {k : Nat} (h : inB 1073741824 (f k) = false) : ∀ n, k < n → limB f n = false
  | 0, hn => absurd hn (by omega)
  | n + 1, hn => by
    by_cases e : k = n
    · subst e; simp [limB, h]
    · simp [limB, limB_bad h n (by omega)]
theorem limB_at {f : Nat → Int} : ∀ n, limB f n = true → ∀ k, k < n → 0 ≤ f k ∧ f k ≤ 1073741824
  | 0, _, k, hk => absurd hk (by omega)
  | n + 1, h, k, hk => by
    simp only [limB, Bool.and_eq_true] at h
    by_cases e : k = n
    · subst e; exact inB_iff.1 h.2
    · exact limB_at n h.1 k (by omega)
theorem limB_of {f : Nat → Int} (n : Nat) (h : ∀ k, k < n → 0 ≤ f k ∧ f k ≤ 1073741824) : limB f n = true := by
  induction n with
  | zero => rfl
  | succ n ih => rw [limB, ih (fun k hk => h k (by omega)), inB_iff.2 (h n (by omega))]; rfl

/-- water that is right -/
def rt (L S : Int) : Bool := (inB 1073741824 L && inB 1073741824 S) && (decide (0 < L) || decide (S = 0))
theorem rt_iff {L S : Int} : rt L S = true ↔ (0 ≤ L ∧ L ≤ 1073741824) ∧ (0 ≤ S ∧ S ≤ 1073741824) ∧ (0 < L ∨ S = 0) := by
  simp [rt, inB_iff, and_assoc]
def rtN (X Y : Nat → Int) : Nat → Bool
  | 0 => true
  | k + 1 => rtN X Y k && rt (X k) (Y k)
theorem rtN_bad {X Y : Nat → Int} {k : Nat} (h : rt (X k) (Y k) = false) : ∀ n, k < n → rtN X Y n = false
  | 0, hn => absurd hn (by omega)
  | n + 1, hn => by
    by_cases e : k = n
    · subst e; simp [rtN, h]
    · simp [rtN, rtN_bad h n (by omega)]
theorem rtN_at {X Y : Nat → Int} : ∀ n, rtN X Y n = true → ∀ k, k < n → rt (X k) (Y k) = true
  | 0, _, k, hk => absurd hk (by omega)
  | n + 1, h, k, hk => by
    simp only [rtN, Bool.and_eq_true] at h
    by_cases e : k = n
    · subst e; exact h.2
    · exact rtN_at n h.1 k (by omega)
theorem rtN_of {X Y : Nat → Int} (n : Nat) (h : ∀ k, k < n → rt (X k) (Y k) = true) : rtN X Y n = true := by
  induction n with
  | zero => rfl
  | succ n ih => rw [rtN, ih (fun k hk => h k (by omega)), h n (by omega)]; rfl

/-- sums -/
def sm (f : Nat → Int) : Nat → Int
  | 0 => 0
  | k + 1 => sm f k + f k
theorem sm_nonneg {f : Nat → Int} : ∀ n, (∀ k, k < n → 0 ≤ f k) → 0 ≤ sm f n
  | 0, _ => Int.le_refl _
  | n + 1, h => by
    have := sm_nonneg n (fun k hk => h k (by omega))
    have := h n (by omega)
    simp only [sm]; omega
theorem sm_le {f : Nat → Int} {c : Int} : ∀ n : Nat, (∀ k, k < n → f k ≤ c) → sm f n ≤ n * c
  | 0, _ => by simp [sm]
  | n + 1, h => by
    have h1 := sm_le (f := f) (c := c) n (fun k hk => h k (by omega))
    have h2 := h n (by omega)
    have e : ((n + 1 : Nat) : Int) * c = n * c + c := by rw [Int.natCast_add, Int.add_mul]; simp
    rw [e]
    simp only [sm]; omega
theorem sm_mono {f : Nat → Int} {m : Nat} : ∀ n, m ≤ n → (∀ k, k < n → 0 ≤ f k) → sm f m ≤ sm f n
  | 0, h, _ => by
    have : m = 0 := by omega
    subst this; exact Int.le_refl _
  | n + 1, h, hk => by
    by_cases e : m = n + 1
    · subst e; exact Int.le_refl _
    · have := sm_mono (m := m) n (by omega) (fun k hk' => hk k (by omega))
      have := hk n (by omega)
      simp only [sm]; omega
theorem sm_congr {f g : Nat → Int} : ∀ n, (∀ k, k < n → f k = g k) → sm f n = sm g n
  | 0, _ => rfl
  | n + 1, h => by simp only [sm]; rw [sm_congr n (fun k hk => h k (by omega)), h n (by omega)]

/-- Mix: the error -/
def mixE (n : Nat) (X Y : Nat → Int) : Int := if 64 < n then 2 else if rtN X Y n = true ∧ inB 1073741824 (sm X n) = true ∧ inB 1073741824 (sm Y n) = true then 0 else 430
/-- a value, where there is no error -/
def orZ (E v : Int) : Int := if E = 0 then v else 0

/-- Split: the error, and the salt of part k -/
def splE (L S : Int) (n : Nat) (P : Nat → Int) : Int := if 64 < n then 2 else if rt L S = false then 430 else if limB P n = true ∧ sm P n = L then 0 else 1
def splS (L S : Int) (P : Nat → Int) (k : Nat) : Int := if 0 < L then S * sm P (k + 1) / L - S * sm P k / L else 0

/-- Lose: the error, and the salt that is gone -/
def losE (L S ev se : Int) : Int := if rt L S = false then 430 else if 0 ≤ ev ∧ ev ≤ L ∧ 0 ≤ se ∧ se ≤ L - ev then if 0 < L - ev ∨ S = 0 then 0 else 430 else 1
def losG (L S ev se : Int) : Int := if 0 < L - ev then S * se / (L - ev) else 0

/-- Leach: the error, and the salt that drains -/
def lchE (H A L S : Int) : Int := if (1 ≤ H ∧ H ≤ 1073741824) ∧ (0 ≤ A ∧ A ≤ 1073741824) ∧ rt L S = true ∧ H + L ≤ 1073741824 ∧ A + S ≤ 1073741824 then 0 else 430
def lchD (H A L S : Int) : Int := (A + S) * L / (H + L)
def lchA (H A L S : Int) : Int := A + S - lchD H A L S

/-- Turns: how many, with k turns left -/
def trn (H L S lim : Int) : Nat → Int → Option Nat
  | 0, A => if A ≤ lim then some 0 else none
  | k + 1, A => if A ≤ lim then some 0 else if lchE H A L S = 0 then (trn H L S lim k (lchA H A L S)).map (· + 1) else none
def trnE (H A L S most lim : Int) : Int := if lchE H A L S = 0 then if inB 400 most = true ∧ inB 1073741824 lim = true then 0 else 1 else lchE H A L S
end Go.Proofs.Ythmebjbaigiehaa
