/- Contract of the reference interpolation at different points: at most 64 points. -/
import Derived.Test.YtklngacahhlhmaaWalk2
namespace Go.Proofs.Ytklngacahhlhmaa
open Go.RowKit
open Pl (inv eQ Cg sumN prodN lagr)

/-- a term of the interpolation -/
def tm (X Y : Nat → Int) (n : Nat) (t : Int) (i : Nat) : Int := Y i * prodN i (fun k => t - X k) n * inv (prodN i (fun k => X i - X k) n)
theorem lagr_tm (X Y : Nat → Int) (n : Nat) (t : Int) : lagr n X Y t = sumN (tm X Y n t) n := rfl

/-- a product on the way -/
def pq (X : Nat → Int) (t : Int) (i j : Nat) : Int := prodN i (fun k => (t - X k) * inv (X i - X k)) j

theorem pq_end (X Y : Nat → Int) (n : Nat) (t : Int) (i : Nat) {v : Int} (h : Cg v (Y i * pq X t i n)) : Cg v (tm X Y n t i) := by
  refine h.trans ?_
  unfold pq tm
  rw [Pl.prodN_mul, ← Int.mul_assoc]
  exact (Pl.Cg.refl _).mul (Pl.prodN_inv i _ n).symm

theorem neg_mod (x t : Int) : Cg ((t + -(x % 1073741789)) % 1073741789) (t - x) :=
  (Pl.Cg.mod _).trans (((Pl.Cg.refl t).add (Pl.Cg.mod x).neg).trans (Pl.Cg.of_eq (by omega)))

theorem pq_step {X Y : Nat → Int} {t : Int} {i j : Nat} (hne : j ≠ i) {v a b : Int} (h : Cg v (Y i * pq X t i j)) (ha : Cg a (t - X j)) (hb : Cg b (inv (X i - X j))) :
    Cg (v * (a * b % 1073741789) % 1073741789) (Y i * pq X t i (j + 1)) := by
  have e : pq X t i (j + 1) = pq X t i j * ((t - X j) * inv (X i - X j)) := Pl.prodN_take hne
  rw [e]
  refine (Pl.Cg.mod _).trans ((h.mul ((Pl.Cg.mod _).trans (ha.mul hb))).trans (Pl.Cg.of_eq (by grind)))
theorem pq_pass {X Y : Nat → Int} {t : Int} {i : Nat} {v : Int} (h : Cg v (Y i * pq X t i i)) : Cg v (Y i * pq X t i (i + 1)) := by
  have e : pq X t i (i + 1) = pq X t i i := Pl.prodN_pass rfl
  rw [e]; exact h

set_option maxHeartbeats 2000000 in
theorem at_20 (A : Option Addr) (n c B : Nat) (X Y : Nat → Int) (t : Int) (w : World) (hn : n ≤ 64) (hr : RdP w B A n X Y) (hx : ∀ j, j < n → I64 (X j)) (hy : ∀ j, j < n → I64 (Y j)) (ht : I64 t) (hd : distB X n = true) :
    Calls Try.prog 20 #[.slice A n c, .int .i64 t] w fun e w' => e = .returned (.tuple #[.int .i64 (lagr n X Y t % 1073741789), .int .i64 0]) ∧ ∃ m, w' = w.drewN m := by
  have HX := Lib.hid hx
  have HY := Lib.hid hy
  have HR := Lib.hid hr
  have HT := Lib.hid ht
  have HD := Lib.hid hd
  clear hr hx hy ht hd
  go_enter Try.func20, Try.ntmps20
  go_wp2_with fail
  refine (diff_24 A n c B X Y _ (by omega) HR.out HX.out).mono ?_
  rintro e w1 ⟨rfl, hm⟩
  rw [HD.out]
  have HW1 := Lib.hid hm
  clear hm
  go_wp2_with fail
  go_loopw [6, 7] (fun y i wr => ∃ (k : Nat) (v : Int), k ≤ n ∧ i = .int .i64 k ∧ y = .int .i64 v ∧ 0 ≤ v ∧ v < 1073741789 ∧ Cg v (sumN (tm X Y n t) k) ∧ (∃ m, wr = w.drewN m)) (fun _ i _ => n - (intOf i).toNat)
  case atStart => exact ⟨0, 0, by omega, rfl, rfl, by omega, by omega, Pl.Cg.refl _, HW1.out⟩
  case round =>
    obtain ⟨k, v, hk, rfl, rfl, hv0, hv1, hv, hm⟩ := hrel
    have HV := Lib.hid hv
    have HW := Lib.hid hm
    clear hv hm
    by_cases hlt : k < n
    · obtain ⟨b, off, rfl, _, cx, cy⟩ := (HR.out.quiet HW.out).at_ hlt
      obtain ⟨wo, rfl⟩ : ∃ wo : World, wo = wr := ⟨_, rfl⟩
      have hyb := emodQ (Y k)
      have hkn : (k : Int) < n := by omega
      go_wp2_with fail
      refine (mod_13 _ _ (HY.out k hlt)).mono ?_
      rintro e w' ⟨rfl, rfl⟩
      go_wp2_with fail
      go_loopw [8, 9] (fun y i wr => ∃ (j : Nat) (v : Int), j ≤ n ∧ i = .int .i64 j ∧ y = .int .i64 v ∧ 0 ≤ v ∧ v < 1073741789 ∧ Cg v (Y k * pq X t k j) ∧ (∃ m, wr = w.drewN m)) (fun _ i _ => n - (intOf i).toNat)
      case atStart => exact ⟨0, _, by omega, rfl, rfl, hyb.1, hyb.2, (Pl.Cg.mod _).trans (Pl.Cg.of_eq (by simp [pq, prodN])), HW.out⟩
      case round =>
        obtain ⟨j, v2, hj, rfl, rfl, hv20, hv21, hv2, hm⟩ := hrel
        have HV2 := Lib.hid hv2
        have HM := Lib.hid hm
        clear hv2 hm
        by_cases hjt : j < n
        · by_cases hjk : j = k
          · subst hjk
            have hb : ((j : Int) != j) = false := by simp
            go_wp2_with fail
            go_roundw
            case rel => exact ⟨j + 1, _, by omega, by go_num, rfl, hv20, hv21, pq_pass HV2.out, HM.out⟩
            case measure => simp [intOf]; omega
          · have hb : ((j : Int) != k) = true := by rw [bne_iff_ne]; omega
            obtain ⟨b2, off2, e2, _, c2, _⟩ := (HR.out.quiet HM.out).at_ hjt
            obtain ⟨b', off', e', _, c1, _⟩ := (HR.out.quiet HM.out).at_ hlt
            obtain ⟨rfl, rfl⟩ : b = b2 ∧ off = off2 := by simpa using e2
            obtain ⟨rfl, rfl⟩ : b = b' ∧ off = off' := by simpa using e'
            clear e' e2
            have hjn : (j : Int) < n := by omega
            have h1 := emodQ (X j)
            have HA := Lib.hid (neg_mod (X j) t)
            have HB := Lib.hid (neg_mod (X j) (X k))
            have HNE := Lib.hid hjk
            clear hjk
            have HXX := Lib.hid (i64_small (n := -(X j % 1073741789)) (by omega) (by omega))
            have hx2 := emodQ (X k + -(X j % 1073741789))
            have hx3 := emodQ (t + -(X j % 1073741789))
            have hw : IntKind.i64.wrap (-(X j % 1073741789)) = -(X j % 1073741789) := IntWalk.i64_in _ (by omega)
            have HR2 := Lib.hid (i64_small (n := (X k + -(X j % 1073741789)) % 1073741789) (by omega) (by omega))
            have HR3 := Lib.hid (i64_small (n := (t + -(X j % 1073741789)) % 1073741789) (by omega) (by omega))
            have hk0 : (0 : Int) ≤ k := by omega
            have hj0 : (0 : Int) ≤ j := by omega
            go_wp2_with fail
            go_quiet (first
              | (go_at_call 13; exact quiet_l (mod_13 _ _ (HX.out _ hjt)))
              | (go_at_call 15; exact quiet_l (add_15 _ _ _ (HX.out _ hlt) HXX.out))
              | (go_at_call 11; exact quiet_l (inv_11 _ _ HR2.out)))
            go_wp2_with fail
            refine (mod_13 _ _ (HX.out _ hjt)).mono ?_
            rintro e w' ⟨rfl, rfl⟩
            go_wp2_with fail
            refine (add_15 _ _ _ HT.out HXX.out).mono ?_
            rintro e w' ⟨rfl, rfl⟩
            have hin := Pl.inv_range ((X k + -(X j % 1073741789)) % 1073741789)
            have HIN := Lib.hid (i64_small (n := inv ((X k + -(X j % 1073741789)) % 1073741789)) (by omega) (by omega))
            have HV2R := Lib.hid (i64_small (n := v2) (by omega) (by omega))
            have hm2 := emodQ ((t + -(X j % 1073741789)) % 1073741789 * inv ((X k + -(X j % 1073741789)) % 1073741789))
            have HM2 := Lib.hid (i64_small (n := (t + -(X j % 1073741789)) % 1073741789 * inv ((X k + -(X j % 1073741789)) % 1073741789) % 1073741789) (by omega) (by omega))
            have hm3 := emodQ (v2 * ((t + -(X j % 1073741789)) % 1073741789 * inv ((X k + -(X j % 1073741789)) % 1073741789) % 1073741789))
            have HPS := Lib.hid (pq_step HNE.out HV2.out HA.out (Pl.Cg.of_eq (Pl.inv_cg HB.out)))
            clear hin hm2
            go_wp2_with fail
            refine (mul_17 _ _ _ HR3.out HIN.out).mono ?_
            rintro e w' ⟨rfl, rfl⟩
            go_wp2_with fail
            refine (mul_17 _ _ _ HV2R.out HM2.out).mono ?_
            rintro e w' ⟨rfl, rfl⟩
            go_wp2_with fail
            go_roundw
            case rel => exact ⟨j + 1, _, by omega, by go_num, rfl, hm3.1, hm3.2, HPS.out, quiet_more HM.out⟩
            case measure => simp [intOf]; omega
        · obtain rfl : n = j := by omega
          have HT1 := Lib.hid (HV.out.add (pq_end X Y _ t k HV2.out))
          have HVR := Lib.hid (i64_small (n := v) (by omega) (by omega))
          have HV2R := Lib.hid (i64_small (n := v2) (by omega) (by omega))
          have h3 := emodQ (v + v2)
          go_wp2_with fail
          refine (add_15 _ _ _ HVR.out HV2R.out).mono ?_
          rintro e w' ⟨rfl, rfl⟩
          go_wp2_with fail
          go_roundw
          case rel => exact ⟨k + 1, _, by omega, by go_num, rfl, h3.1, h3.2, (Pl.Cg.mod _).trans HT1.out, HM.out⟩
          case measure => simp [intOf]; omega
    · obtain rfl : n = k := by omega
      go_wp2_with fail
      go_ret2
      exact ⟨ret_int2 (by rw [lagr_tm, ← HV.out.eq]; omega) rfl, HW.out⟩

end Go.Proofs.Ytklngacahhlhmaa
