/- The stores and releases that follow from some inflows. Plain laws; no program in sight. -/
import Derived.Test.YtnmocdfogdcliaaLeast
namespace Go.Proofs.Ytnmocdfogdcliaa
open Go.RowKit

section
variable (cp st fl : Int) (n : Nat) (lo hi dm ou sp : Nat → Int)
/-- the release of a store -/
def rlS (t : Nat) (x : Int) : Int := max (dm t) (x - kpH cp hi sp t (rb cp fl n lo hi dm ou sp (t + 1)))
/-- the store of moment t; a: the choices -/
def xS (a : Nat → Int) : Nat → Int
  | 0 => st
  | t + 1 => nxN cp (xS a t) (rlS cp fl n lo hi dm ou sp t (xS a t)) (lo t + a t % (hi t - lo t + 1))
def rS (a : Nat → Int) (t : Nat) : Int := rlS cp fl n lo hi dm ou sp t (xS cp st fl n lo hi dm ou sp a t)
end
variable {cp st fl : Int} {n : Nat} {lo hi dm ou sp : Nat → Int}
/-- every store is robust, if the first one is -/
theorem xS_ok (hg : Good cp fl n lo hi dm ou sp) (h0 : 0 ≤ st ∧ st ≤ cp) (hk : ri3 (rb cp fl n lo hi dm ou sp 0).1 st (rb cp fl n lo hi dm ou sp 0).2 = true) (a : Nat → Int) :
    ∀ t, t ≤ n → ri3 (rb cp fl n lo hi dm ou sp t).1 (xS cp st fl n lo hi dm ou sp a t) (rb cp fl n lo hi dm ou sp t).2 = true ∧ 0 ≤ xS cp st fl n lo hi dm ou sp a t ∧ xS cp st fl n lo hi dm ou sp a t ≤ cp
  | 0, _ => ⟨hk, h0⟩
  | t + 1, ht => by
    obtain ⟨i1, i2⟩ := xS_ok hg h0 hk a t (by omega)
    obtain ⟨⟨g1, g2, g3⟩, _⟩ := hg.2.2.2 t (by omega)
    have hq : lo t ≤ lo t + a t % (hi t - lo t + 1) ∧ lo t + a t % (hi t - lo t + 1) ≤ hi t := by
      have h1 := Int.emod_nonneg (a t) (show hi t - lo t + 1 ≠ 0 by omega)
      have h2 := Int.emod_lt_of_pos (a t) (show 0 < hi t - lo t + 1 by omega)
      omega
    obtain ⟨_, _, k3, k4⟩ := keep_ok hg (show t < n by omega) i1 hq rfl
    exact ⟨k3, k4⟩
/-- up to the moment k only the choices ahead of k count -/
theorem xS_same {a b : Nat → Int} {k : Nat} (h : ∀ j, j < k → a j = b j) : ∀ t, t ≤ k → xS cp st fl n lo hi dm ou sp a t = xS cp st fl n lo hi dm ou sp b t
  | 0, _ => rfl
  | t + 1, ht => by rw [xS, xS, xS_same h t (by omega), h t (by omega)]
theorem rS_same {a b : Nat → Int} {k : Nat} (h : ∀ j, j < k → a j = b j) {t : Nat} (ht : t ≤ k) : rS cp st fl n lo hi dm ou sp a t = rS cp st fl n lo hi dm ou sp b t := by
  unfold rS
  rw [xS_same h t ht]
end Go.Proofs.Ytnmocdfogdcliaa
