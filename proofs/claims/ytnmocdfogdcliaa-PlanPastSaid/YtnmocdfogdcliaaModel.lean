/- What the functions on plans compute, in plain words. Plain laws; no program in sight. -/
import Derived.Test.YtnmocdfogdcliaaBase
namespace Go.Proofs.Ytnmocdfogdcliaa
open Go.RowKit

/-- do numbers not decrease? -/
def ri3 (a b c : Int) : Bool := decide (a ≤ b) && decide (b ≤ c)
def ri4 (a b c d : Int) : Bool := (decide (a ≤ b) && decide (b ≤ c)) && decide (c ≤ d)
theorem ri3_iff {a b c : Int} : ri3 a b c = true ↔ a ≤ b ∧ b ≤ c := by simp [ri3]
theorem ri4_iff {a b c d : Int} : ri4 a b c d = true ↔ a ≤ b ∧ b ≤ c ∧ c ≤ d := by simp [ri4, and_assoc]
/-- are the first n numbers rising? -/
def risB (f : Nat → Int) : Nat → Bool
  | 0 => true
  | k + 1 => risB f k && (decide (k = 0) || decide (f (k - 1) ≤ f k))
theorem risB_bad {f : Nat → Int} {k : Nat} (hk : 0 < k) (h : f k < f (k - 1)) : ∀ n, k < n → risB f n = false
  | 0, hn => absurd hn (by omega)
  | n + 1, hn => by
    by_cases e : k = n
    · subst e
      have h1 : ¬ k = 0 := by omega
      have h2 : ¬ f (k - 1) ≤ f k := by omega
      simp [risB, h1, h2]
    · simp [risB, risB_bad hk h n (by omega)]
/-- the cells of periods: five each -/
def psc (lo hi dm ou sp : Nat → Int) (j : Nat) : Value :=
  if j % 5 = 0 then .int .i64 (lo (j / 5)) else if j % 5 = 1 then .int .i64 (hi (j / 5)) else if j % 5 = 2 then .int .i64 (dm (j / 5)) else if j % 5 = 3 then .int .i64 (ou (j / 5)) else .int .i64 (sp (j / 5))
section
variable (lo hi dm ou sp : Nat → Int) (j : Nat)
theorem psc_0 : psc lo hi dm ou sp (j * 5) = .int .i64 (lo j) := by
  unfold psc; rw [if_pos (by omega), show j * 5 / 5 = j by omega]
theorem psc_1 : psc lo hi dm ou sp (j * 5 + 1) = .int .i64 (hi j) := by
  unfold psc; rw [if_neg (by omega), if_pos (by omega), show (j * 5 + 1) / 5 = j by omega]
theorem psc_2 : psc lo hi dm ou sp (j * 5 + 2) = .int .i64 (dm j) := by
  unfold psc; rw [if_neg (by omega), if_neg (by omega), if_pos (by omega), show (j * 5 + 2) / 5 = j by omega]
theorem psc_3 : psc lo hi dm ou sp (j * 5 + 3) = .int .i64 (ou j) := by
  unfold psc; rw [if_neg (by omega), if_neg (by omega), if_neg (by omega), if_pos (by omega), show (j * 5 + 3) / 5 = j by omega]
theorem psc_4 : psc lo hi dm ou sp (j * 5 + 4) = .int .i64 (sp j) := by
  unfold psc; rw [if_neg (by omega), if_neg (by omega), if_neg (by omega), if_neg (by omega), show (j * 5 + 4) / 5 = j by omega]
end
/-- a period -/
theorem per_at {w : World} {B : Nat} {PA : Option Addr} {n : Nat} {lo hi dm ou sp : Nat → Int} (h : Rd w B PA (n * 5) (psc lo hi dm ou sp)) {j : Nat} (hj : j < n) : ∃ b off, PA = some ⟨b, off, none⟩ ∧ b < B ∧ w.cell? ⟨b, off + j * 5, none⟩ = some (.int .i64 (lo j)) ∧ w.cell? ⟨b, off + j * 5 + 1, none⟩ = some (.int .i64 (hi j)) ∧
    w.cell? ⟨b, off + j * 5 + 2, none⟩ = some (.int .i64 (dm j)) ∧ w.cell? ⟨b, off + j * 5 + 3, none⟩ = some (.int .i64 (ou j)) ∧ w.cell? ⟨b, off + j * 5 + 4, none⟩ = some (.int .i64 (sp j)) := by
  obtain ⟨b, off, e, hb, hc⟩ := h (by omega)
  refine ⟨b, off, e, hb, ?_, ?_, ?_, ?_, ?_⟩
  · rw [hc (j * 5) (by omega), psc_0]
  · rw [Nat.add_assoc, hc (j * 5 + 1) (by omega), psc_1]
  · rw [Nat.add_assoc, hc (j * 5 + 2) (by omega), psc_2]
  · rw [Nat.add_assoc, hc (j * 5 + 3) (by omega), psc_3]
  · rw [Nat.add_assoc, hc (j * 5 + 4) (by omega), psc_4]

/-- is the tank right? -/
def okT (cp st fl : Int) : Bool := ri4 0 st cp 1099511627776 && ri3 0 fl cp
/-- is a period right? -/
def okP (lo hi dm ou sp : Nat → Int) (j : Nat) : Bool := (ri4 0 (lo j) (hi j) 1099511627776 && ri4 0 (dm j) (ou j) 1099511627776) && ri3 0 (sp j) 1099511627776
def okN (lo hi dm ou sp : Nat → Int) : Nat → Bool
  | 0 => true
  | j + 1 => okN lo hi dm ou sp j && okP lo hi dm ou sp j
/-- the error of Check -/
def chkE (cp st fl : Int) (n : Nat) (lo hi dm ou sp : Nat → Int) : Int := if 64 < n then 2 else if (okT cp st fl && okN lo hi dm ou sp n) = true then 0 else 390
section
variable {cp st fl : Int} {n : Nat} {lo hi dm ou sp : Nat → Int}
theorem okN_at : ∀ n, okN lo hi dm ou sp n = true → ∀ j, j < n → okP lo hi dm ou sp j = true
  | 0, _, j, hj => absurd hj (by omega)
  | n + 1, h, j, hj => by
    simp only [okN, Bool.and_eq_true] at h
    by_cases e : j = n
    · subst e; exact h.2
    · exact okN_at n h.1 j (by omega)
theorem okN_of (n : Nat) (h : ∀ j, j < n → okP lo hi dm ou sp j = true) : okN lo hi dm ou sp n = true := by
  induction n with
  | zero => rfl
  | succ n ih => rw [okN, ih (fun j hj => h j (by omega)), h n (by omega)]; rfl
theorem okN_bad {j : Nat} (h : okP lo hi dm ou sp j = false) : ∀ n, j < n → okN lo hi dm ou sp n = false
  | 0, hn => absurd hn (by omega)
  | n + 1, hn => by
    by_cases e : j = n
    · subst e; simp [okN, h]
    · simp [okN, okN_bad h n (by omega)]
/-- a right period -/
theorem okP_iff {j : Nat} : okP lo hi dm ou sp j = true ↔ (0 ≤ lo j ∧ lo j ≤ hi j ∧ hi j ≤ 1099511627776) ∧ (0 ≤ dm j ∧ dm j ≤ ou j ∧ ou j ≤ 1099511627776) ∧ 0 ≤ sp j ∧ sp j ≤ 1099511627776 := by
  unfold okP; rw [Bool.and_eq_true, Bool.and_eq_true, ri4_iff, ri4_iff, ri3_iff, and_assoc]
/-- a right course -/
theorem chk_zero (h : chkE cp st fl n lo hi dm ou sp = 0) : n ≤ 64 ∧ (0 ≤ st ∧ st ≤ cp ∧ cp ≤ 1099511627776) ∧ (0 ≤ fl ∧ fl ≤ cp) ∧ ∀ j, j < n → okP lo hi dm ou sp j = true := by
  unfold chkE at h
  split at h
  · cases h
  split at h
  · rename_i h1 h2
    rw [Bool.and_eq_true, okT, Bool.and_eq_true, ri4_iff, ri3_iff] at h2
    exact ⟨by omega, h2.1.1, h2.1.2, okN_at n h2.2⟩
  · cases h

/-! ### robust stores -/
/-- from which to which store is kept after a release, if the stores of the next moment are robust -/
def kpL (lo : Nat → Int) (t : Nat) (r : Int × Int) : Int := max 0 (r.1 - lo t)
def kpH (cp : Int) (hi sp : Nat → Int) (t : Nat) (r : Int × Int) : Int := (if r.2 = cp then cp + sp t else r.2) - hi t
/-- the robust stores of a moment, with those of the next one -/
def bef (cp : Int) (lo hi dm ou sp : Nat → Int) (t : Nat) (r : Int × Int) : Int × Int :=
  if r.2 < r.1 then (1, 0) else if kpH cp hi sp t r < kpL lo t r then (1, 0) else if min cp (kpH cp hi sp t r + ou t) < kpL lo t r + dm t then (1, 0) else (kpL lo t r + dm t, min cp (kpH cp hi sp t r + ou t))
/-- what may remain after the release -/
def rst (cp : Int) (lo hi sp : Nat → Int) (t : Nat) (r : Int × Int) : Int × Int := if r.2 < r.1 then (1, 0) else (kpL lo t r, kpH cp hi sp t r)
/-- the robust stores, k moments ahead of the end -/
def rbk (cp fl : Int) (n : Nat) (lo hi dm ou sp : Nat → Int) : Nat → Int × Int
  | 0 => (fl, cp)
  | k + 1 => bef cp lo hi dm ou sp (n - 1 - k) (rbk cp fl n lo hi dm ou sp k)
/-- the robust stores of moment t -/
def rb (cp fl : Int) (n : Nat) (lo hi dm ou sp : Nat → Int) (t : Nat) : Int × Int := rbk cp fl n lo hi dm ou sp (n - t)
theorem rb_end : rb cp fl n lo hi dm ou sp n = (fl, cp) := by simp [rb, rbk]
theorem rb_step {t : Nat} (ht : t < n) : rb cp fl n lo hi dm ou sp t = bef cp lo hi dm ou sp t (rb cp fl n lo hi dm ou sp (t + 1)) := by
  unfold rb
  rw [show n - t = (n - (t + 1)) + 1 by omega, rbk, show n - 1 - (n - (t + 1)) = t by omega]
/-- is it no range, or a right one? -/
def ok2 (cp : Int) (r : Int × Int) : Prop := r = (1, 0) ∨ 0 ≤ r.1 ∧ r.1 ≤ r.2 ∧ r.2 ≤ cp
theorem bef_ok {t : Nat} {r : Int × Int} (hd : 0 ≤ dm t) : ok2 cp (bef cp lo hi dm ou sp t r) := by
  unfold bef
  split
  · exact .inl rfl
  split
  · exact .inl rfl
  split
  · exact .inl rfl
  · right
    have h0 : 0 ≤ kpL lo t r := by unfold kpL; omega
    exact ⟨by show 0 ≤ kpL lo t r + dm t; omega, by show kpL lo t r + dm t ≤ min cp (kpH cp hi sp t r + ou t); omega, by show min cp (kpH cp hi sp t r + ou t) ≤ cp; omega⟩
end
end Go.Proofs.Ytnmocdfogdcliaa
