/- What the functions answer where what is asked is right. Plain laws; no program in sight. -/
import Derived.Test.YtnmocdfogdcliaaKeep
namespace Go.Proofs.Ytnmocdfogdcliaa
open Go.RowKit
section
variable {cp st fl : Int} {n : Nat} {lo hi dm ou sp : Nat → Int} {k : Nat} {x : Int}
theorem ask_ok (hc : chkE cp st fl n lo hi dm ou sp = 0) (hk : k < n) (hx : 0 ≤ x ∧ x ≤ cp) : askE cp st fl n lo hi dm ou sp (k : Int) x = 0 := by
  unfold askE
  rw [if_neg (Decidable.not_not.2 hc), if_neg (by omega), if_neg (by rw [ri3_iff.2 hx]; simp)]
theorem rel_ok (hc : chkE cp st fl n lo hi dm ou sp = 0) (hk : k < n) (hx : 0 ≤ x ∧ x ≤ cp) (h : ri3 (rb cp fl n lo hi dm ou sp k).1 x (rb cp fl n lo hi dm ou sp k).2 = true) :
    relE cp st fl n lo hi dm ou sp (k : Int) x = 0 ∧ relV cp st fl n lo hi dm ou sp (k : Int) x = max (dm k) (x - kpH cp hi sp k (rb cp fl n lo hi dm ou sp (k + 1))) := by
  have h1 : relE cp st fl n lo hi dm ou sp (k : Int) x = 0 := by
    unfold relE
    rw [if_neg (by rw [ask_ok hc hk hx]; simp), Int.toNat_natCast, h]
    rfl
  refine ⟨h1, ?_⟩
  unfold relV
  rw [if_pos h1, Int.toNat_natCast]
theorem askM_of (hc : chkE cp st fl n lo hi dm ou sp = 0) (hk : k < n) (hx : 0 ≤ x ∧ x ≤ cp) : askM cp st fl n lo hi dm ou sp (k : Int) x true = 0 := by
  rw [askM_true]
  exact ask_ok hc hk hx
theorem nx_ok (hc : chkE cp st fl n lo hi dm ou sp = 0) (hk : k < n) (hx : 0 ≤ x ∧ x ≤ cp) {r q : Int} (hr : 0 ≤ r ∧ r ≤ 1099511627776) (hq : 0 ≤ q ∧ q ≤ 1099511627776) (ha : dm k ≤ r ∧ r ≤ ou k ∧ r ≤ x) :
    nxV cp st fl n lo hi dm ou sp (k : Int) x r q = .tuple (nx4 (nxO cp sp k x r q) (nxN cp x r q) (nxS cp x r q) 0) := by
  have h1 : nxE cp st fl n lo hi dm ou sp (k : Int) x r q = 0 := by
    unfold nxE
    rw [ri3_iff.2 hr, ri3_iff.2 hq]
    exact askM_of hc hk hx
  have h2 : alw dm ou k x r = true := by
    unfold alw
    rw [ri3_iff.2 ⟨ha.1, ha.2.1⟩]
    simpa using ha.2.2
  unfold nxV nxB
  rw [h1, Int.toNat_natCast, h2]
  simp
theorem sp_ok (hc : chkE cp st fl n lo hi dm ou sp = 0) (hk : k < n) (hx : 0 ≤ x ∧ x ≤ cp) {r : Int} (hr : 0 ≤ r ∧ r ≤ 1099511627776) (ha : dm k ≤ r ∧ r ≤ ou k ∧ r ≤ x) (h : ri3 (rb cp fl n lo hi dm ou sp k).1 x (rb cp fl n lo hi dm ou sp k).2 = false) :
    spE cp st fl n lo hi dm ou sp (k : Int) x r = 0 ∧ spV cp st fl n lo hi dm ou sp (k : Int) x r = if spK cp fl n lo hi dm ou sp k x r = true then hi k else lo k := by
  have h2 : alw dm ou k x r = true := by
    unfold alw
    rw [ri3_iff.2 ⟨ha.1, ha.2.1⟩]
    simpa using ha.2.2
  have h1 : spE cp st fl n lo hi dm ou sp (k : Int) x r = 0 := by
    unfold spE
    rw [ri3_iff.2 hr, if_pos (askM_of hc hk hx), Int.toNat_natCast, h, h2]
    rfl
  refine ⟨h1, ?_⟩
  unfold spV
  rw [if_pos h1, Int.toNat_natCast]
end
end Go.Proofs.Ytnmocdfogdcliaa
