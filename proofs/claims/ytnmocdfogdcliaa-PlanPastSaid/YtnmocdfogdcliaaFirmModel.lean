/- Firm, in plain words: with lesser demands no robust store is lost, so the multiples that can be met are those up to a greatest one. Plain laws; no program in sight. -/
import Derived.Test.YtnmocdfogdcliaaRefRelease2
namespace Go.Proofs.Ytnmocdfogdcliaa
open Go.RowKit

/-- the one range lies in the other, if it holds anything -/
def sub2 (r s : Int × Int) : Prop := r.1 ≤ r.2 → s.1 ≤ r.1 ∧ r.2 ≤ s.2
theorem sub2_refl (r : Int × Int) : sub2 r r := fun _ => ⟨Int.le_refl _, Int.le_refl _⟩
section
variable {cp fl : Int} {n : Nat} {lo hi dm ou sp lo' hi' dm' ou' sp' : Nat → Int}
/-- a narrower range of inflow, a lesser demand, a greater release and spill lose no robust store -/
theorem bef_mono {t : Nat} {r s : Int × Int} (hs : sub2 r s) (h2 : ok2 cp s) (hlo : lo t ≤ lo' t) (hhi : hi' t ≤ hi t) (hdm : dm' t ≤ dm t) (hou : ou t ≤ ou' t) (hsp : sp t ≤ sp' t) (hs0 : 0 ≤ sp' t) : sub2 (bef cp lo hi dm ou sp t r) (bef cp lo' hi' dm' ou' sp' t s) := by
  by_cases h1 : r.2 < r.1
  · intro h
    unfold bef at h
    rw [if_pos h1] at h
    simp only at h
    omega
  have hrs := hs (by omega)
  have hsc : s.2 ≤ cp := by
    rcases h2 with e | e
    · rw [e] at hrs; simp only at hrs; omega
    · exact e.2.2
  have hL : kpL lo' t s ≤ kpL lo t r := by unfold kpL; omega
  have hH : kpH cp hi sp t r ≤ kpH cp hi' sp' t s := by
    unfold kpH
    split <;> split <;> omega
  unfold bef
  rw [if_neg h1, if_neg (show ¬ s.2 < s.1 by omega)]
  by_cases h3 : kpH cp hi sp t r < kpL lo t r
  · rw [if_pos h3]; intro h; simp only at h; omega
  rw [if_neg h3, if_neg (show ¬ kpH cp hi' sp' t s < kpL lo' t s by omega)]
  by_cases h4 : min cp (kpH cp hi sp t r + ou t) < kpL lo t r + dm t
  · rw [if_pos h4]; intro h; simp only at h; omega
  rw [if_neg h4, if_neg (show ¬ min cp (kpH cp hi' sp' t s + ou' t) < kpL lo' t s + dm' t by omega)]
  intro _
  exact ⟨by show kpL lo' t s + dm' t ≤ kpL lo t r + dm t; omega, by show min cp (kpH cp hi sp t r + ou t) ≤ min cp (kpH cp hi' sp' t s + ou' t); omega⟩
theorem rbk_mono (hg : Good cp fl n lo' hi' dm' ou' sp') (h : ∀ j, j < n → lo j ≤ lo' j ∧ hi' j ≤ hi j ∧ dm' j ≤ dm j ∧ ou j ≤ ou' j ∧ sp j ≤ sp' j) : ∀ k, k ≤ n → sub2 (rbk cp fl n lo hi dm ou sp k) (rbk cp fl n lo' hi' dm' ou' sp' k)
  | 0, _ => sub2_refl _
  | k + 1, hk => by
    obtain ⟨h1, h2, h3, h4, h5⟩ := h (n - 1 - k) (by omega)
    have ho := rb_ok hg (n - k) (by omega)
    unfold rb at ho
    rw [show n - (n - k) = k by omega] at ho
    exact bef_mono (rbk_mono hg h k (by omega)) ho h1 h2 h3 h4 h5 ((hg.2.2.2 (n - 1 - k) (by omega)).2.2.1)
theorem rb_mono (hg : Good cp fl n lo' hi' dm' ou' sp') (h : ∀ j, j < n → lo j ≤ lo' j ∧ hi' j ≤ hi j ∧ dm' j ≤ dm j ∧ ou j ≤ ou' j ∧ sp j ≤ sp' j) (t : Nat) : sub2 (rb cp fl n lo hi dm ou sp t) (rb cp fl n lo' hi' dm' ou' sp' t) := rbk_mono hg h _ (by omega)
end

/-- the multiples of a shape -/
def mul (N : Nat) (sh : Nat → Int) (j : Nat) : Int := (N : Int) * sh j
/-- is the start robust with N times the shape as demands? -/
def frmB (cp st fl : Int) (n : Nat) (lo hi ou sp sh : Nat → Int) (N : Nat) : Bool :=
  decide (chkE cp st fl n lo hi (mul N sh) ou sp = 0) && ri3 (rb cp fl n lo hi (mul N sh) ou sp 0).1 st (rb cp fl n lo hi (mul N sh) ou sp 0).2
theorem chk_of {cp st fl : Int} {n : Nat} {lo hi dm ou sp : Nat → Int} (h1 : n ≤ 64) (h2 : okT cp st fl = true) (h3 : ∀ j, j < n → okP lo hi dm ou sp j = true) : chkE cp st fl n lo hi dm ou sp = 0 := by
  unfold chkE
  rw [if_neg (by omega), h2, okN_of n h3]
  rfl
theorem chk_parts {cp st fl : Int} {n : Nat} {lo hi dm ou sp : Nat → Int} (h : chkE cp st fl n lo hi dm ou sp = 0) : n ≤ 64 ∧ okT cp st fl = true ∧ ∀ j, j < n → okP lo hi dm ou sp j = true := by
  obtain ⟨h1, h2, h3, h4⟩ := chk_zero h
  refine ⟨h1, ?_, h4⟩
  unfold okT
  rw [Bool.and_eq_true, ri4_iff, ri3_iff]
  exact ⟨h2, h3⟩
theorem frm_anti {cp st fl : Int} {n : Nat} {lo hi ou sp sh : Nat → Int} (hs : ∀ j, j < n → 0 ≤ sh j) {M N : Nat} (hMN : M ≤ N) (h : frmB cp st fl n lo hi ou sp sh N = true) : frmB cp st fl n lo hi ou sp sh M = true := by
  unfold frmB at h ⊢
  rw [Bool.and_eq_true, decide_eq_true_iff] at h ⊢
  obtain ⟨h1, h2⟩ := h
  obtain ⟨c1, c2, c3⟩ := chk_parts h1
  have hm : ∀ j, j < n → 0 ≤ mul M sh j ∧ mul M sh j ≤ mul N sh j := fun j hj => by
    unfold mul
    exact ⟨Int.mul_nonneg (by omega) (hs j hj), Int.mul_le_mul_of_nonneg_right (by omega) (hs j hj)⟩
  have h3 : chkE cp st fl n lo hi (mul M sh) ou sp = 0 := chk_of c1 c2 fun j hj => by
    have := okP_iff.1 (c3 j hj)
    have h := hm j hj
    exact okP_iff.2 ⟨this.1, ⟨by omega, by omega, this.2.1.2.2⟩, this.2.2⟩
  refine ⟨h3, ?_⟩
  rw [ri3_iff] at h2 ⊢
  have := rb_mono (lo := lo) (hi := hi) (dm := mul N sh) (ou := ou) (sp := sp) (good_of h3) (fun j hj => ⟨Int.le_refl _, Int.le_refl _, (hm j hj).2, Int.le_refl _, Int.le_refl _⟩) 0 (by omega)
  omega

/-- one behind the last number under N for which p holds -/
def lastK (p : Nat → Bool) : Nat → Nat
  | 0 => 0
  | N + 1 => if p N = true then N + 1 else lastK p N
theorem lastK_le (p : Nat → Bool) : ∀ N, lastK p N ≤ N
  | 0 => Nat.le_refl _
  | N + 1 => by
    unfold lastK
    split
    · exact Nat.le_refl _
    · have := lastK_le p N; omega
theorem lastK_spec {p : Nat → Bool} (hp : ∀ M N, M ≤ N → p N = true → p M = true) : ∀ N i, i < N → p i = decide (i < lastK p N)
  | 0, i, h => absurd h (by omega)
  | N + 1, i, h => by
    unfold lastK
    by_cases h1 : p N = true
    · rw [if_pos h1, hp i N (by omega) h1]
      simp; omega
    · rw [if_neg h1]
      by_cases e : i = N
      · subst e
        have := lastK_le p i
        have h2 : p i = false := by simpa using h1
        rw [h2]
        simp; omega
      · exact lastK_spec hp N i (by omega)
end Go.Proofs.Ytnmocdfogdcliaa
