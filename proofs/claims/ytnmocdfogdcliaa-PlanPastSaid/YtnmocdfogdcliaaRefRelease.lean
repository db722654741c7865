/- Contract of the reference's Release. -/
import Derived.Test.YtnmocdfogdcliaaAllowed
namespace Go.Proofs.Ytnmocdfogdcliaa
open Go.RowKit

/-- the error of Release, and what it says -/
def relE (cp st fl : Int) (n : Nat) (lo hi dm ou sp : Nat → Int) (t x : Int) : Int :=
  if ¬ askE cp st fl n lo hi dm ou sp t x = 0 then askE cp st fl n lo hi dm ou sp t x else
    if ri3 (rb cp fl n lo hi dm ou sp t.toNat).1 x (rb cp fl n lo hi dm ou sp t.toNat).2 = false then 390 else 0
def relV (cp st fl : Int) (n : Nat) (lo hi dm ou sp : Nat → Int) (t x : Int) : Int :=
  if relE cp st fl n lo hi dm ou sp t x = 0 then max (dm t.toNat) (x - kpH cp hi sp t.toNat (rb cp fl n lo hi dm ou sp (t.toNat + 1))) else 0
section
variable {cp st fl : Int} {n : Nat} {lo hi dm ou sp : Nat → Int} {t x : Int}
/-- what was asked is right -/
theorem ask_zero (h : askE cp st fl n lo hi dm ou sp t x = 0) : chkE cp st fl n lo hi dm ou sp = 0 ∧ (0 ≤ t ∧ t < n) ∧ 0 ≤ x ∧ x ≤ cp := by
  unfold askE at h
  split at h
  · rename_i h1; exact absurd h h1
  · rename_i h1
    split at h
    · cases h
    · rename_i h2
      split at h
      · cases h
      · rename_i h3
        have h4 : ri3 0 x cp = true := by revert h3; cases ri3 0 x cp <;> simp
        have h5 := ri3_iff.1 h4
        exact ⟨by omega, ⟨by omega, by omega⟩, h5.1, h5.2⟩
end
end Go.Proofs.Ytnmocdfogdcliaa
