/- Contracts of the reference power, of the values of polynomials, and of the test for different points: at most 200 elements. -/
import Derived.Test.YtklngacahhlhmaaWalk1
import Derived.Deep.QuietTactic
import Derived.BigQuiet
namespace Go.Proofs.Ytklngacahhlhmaa
open Go.RowKit
open Pl (inv eQ Cg sumN)

theorem quiet_l {P : Program} {f : FuncId} {args : Array Value} {w : World} {n : Nat} {v : Value}
    (h : Calls P f args (w.drewN n) fun e w' => e = .returned v ∧ w.drewN n = w') : Calls P f args (w.drewN n) fun e w'' => e = .returned v ∧ ∃ m, w'' = w.drewN m :=
  h.mono fun _ _ ⟨he, hm⟩ => ⟨he, n, hm.symm⟩

theorem quiet_more {w w' : World} {n : Nat} (h : ∃ m, w' = w.drewN m) : ∃ m, w'.drewN n = w.drewN m := by
  obtain ⟨m, rfl⟩ := h
  exact ⟨m + n, World.drewN_drewN _ _ _⟩

set_option maxHeartbeats 1000000 in
theorem power_25 (n : Int) (w : World) (hn : I64 n) :
    Calls Try.prog 25 #[.int .i64 n, .int .i64 1073741787] w fun e w' => e = .returned (.int .i64 (inv n)) ∧ w = w' := by
  have HN := Lib.hid hn
  clear hn
  have HX := Lib.hid Pl.eQ_cast
  have H0 : Hid (Cg (1 * n ^ eQ) (n ^ eQ)) := Lib.hid (Pl.Cg.of_eq (by omega))
  go_enter Try.func25, Try.ntmps25
  go_wp2_with fail
  go_loop [5, 1, 0] (fun x l s => ∃ (k : Nat) (y z : Int), k ≤ 1073741787 ∧ l = .int .i64 k ∧ x = .int .i64 y ∧ s = .int .i64 z ∧ 0 ≤ y ∧ y < 1073741789 ∧ I64 z ∧ Cg (y * z ^ k) (n ^ eQ)) (fun _ l _ => (intOf l).toNat)
  case atStart => exact ⟨eQ, 1, n, by have := HX.out; omega, by rw [← HX.out], rfl, rfl, by omega, by omega, HN.out, H0.out⟩
  case round =>
    obtain ⟨k, y, z, hk, rfl, rfl, rfl, hy0, hy1, hz1, hc⟩ := hrel
    have HC := Lib.hid hc
    have HZ1 := Lib.hid hz1
    clear hc hz1
    by_cases hk0 : k = 0
    · subst hk0
      go_wp2_with fail
      go_ret
      have hh := HC.out
      rw [Int.pow_zero] at hh
      exact ⟨ret_int (pw_zero hh hy0 hy1), rfl⟩
    · have hk1 : 0 < k := by omega
      clear hk0
      have hyz := emodQ (y * z)
      have hzz := emodQ (z * z)
      have HYR := Lib.hid (i64_small (n := y) (by omega) (by omega))
      by_cases hodd : k % 2 = 1
      · have hb : (((k : Int) % 2) == 1) = true := by rw [beq_iff_eq]; omega
        have HP := Lib.hid (pw_odd (x := y) (s := z) hodd)
        clear hodd
        go_wp2_with fail
        refine (mul_17 _ _ _ HYR.out HZ1.out).mono ?_
        rintro e w' ⟨rfl, rfl⟩
        go_wp2_with fail
        refine (mul_17 _ _ _ HZ1.out HZ1.out).mono ?_
        rintro e w' ⟨rfl, rfl⟩
        go_wp2_with fail
        go_round
        case rel => exact ⟨k / 2, _, _, by omega, by go_num, rfl, rfl, hyz.1, hyz.2, i64_small (by omega) (by omega), HP.out.trans HC.out⟩
        case measure => simp [intOf]; omega
      · have hb : (((k : Int) % 2) == 1) = false := by rw [beq_eq_false_iff_ne]; omega
        have HP := Lib.hid (pw_even (x := y) (s := z) hodd)
        clear hodd
        go_wp2_with fail
        refine (mul_17 _ _ _ HZ1.out HZ1.out).mono ?_
        rintro e w' ⟨rfl, rfl⟩
        go_wp2_with fail
        go_round
        case rel => exact ⟨k / 2, _, _, by omega, by go_num, rfl, rfl, hy0, hy1, i64_small (by omega) (by omega), HP.out.trans HC.out⟩
        case measure => simp [intOf]; omega

set_option maxHeartbeats 400000 in
theorem inv_11 (n : Int) (w : World) (hn : I64 n) :
    Calls Try.prog 11 #[.int .i64 n] w fun e w' => e = .returned (.tuple #[.int .i64 (inv n), .int .i64 (eInv n)]) ∧ w = w' := by
  have HN := Lib.hid hn
  clear hn
  by_cases hz : n % 1073741789 = 0
  · have HI := Lib.hid (Pl.inv_zero (Pl.cg_zero.2 hz))
    have HZ := Lib.hid hz
    clear hz
    go_enter Try.func11, Try.ntmps11
    go_wp2_with fail
    refine (mod_13 _ _ HN.out).mono ?_
    rintro e w' ⟨rfl, rfl⟩
    rw [HZ.out]
    go_wp2_with fail
    go_ret2
    exact ⟨ret_int2 HI.out.symm (by rw [eInv, if_pos HZ.out]), rfl⟩
  · have HZ := Lib.hid hz
    have hz2 : (n % 1073741789 == 0) = false := beq_eq_false_iff_ne.2 hz
    clear hz
    go_enter Try.func11, Try.ntmps11
    go_wp2_with fail
    refine (mod_13 _ _ HN.out).mono ?_
    rintro e w' ⟨rfl, rfl⟩
    go_wp2_with fail
    refine (power_25 _ _ HN.out).mono ?_
    rintro e w' ⟨rfl, rfl⟩
    go_wp2_with fail
    go_ret2
    exact ⟨ret_int2 rfl (by rw [eInv, if_neg HZ.out]), rfl⟩

/-! ### values of polynomials -/
def vN (c : Nat → Int) (t : Int) : Nat → Int
  | 0 => 0
  | k + 1 => vN c t k + c k * t ^ k

theorem v_step (c : Nat → Int) (t : Int) (k : Nat) : (vN c t k % 1073741789 + c k * (t ^ k % 1073741789)) % 1073741789 = vN c t (k + 1) % 1073741789 := by
  rw [Pl.cg_iff]
  exact (Pl.Cg.mod _).add ((Pl.Cg.refl _).mul (Pl.Cg.mod _))
theorem p_step (t : Int) (k : Nat) : (t ^ k % 1073741789) * t % 1073741789 = t ^ (k + 1) % 1073741789 := by
  rw [Pl.cg_iff, Int.pow_succ]
  exact (Pl.Cg.mod _).mul (Pl.Cg.refl _)

set_option maxHeartbeats 1000000 in
theorem value_21 (A : Option Addr) (n c B : Nat) (f : Nat → Int) (t : Int) (w : World) (hn : n ≤ 200) (hB : B ≤ w.heap.size) (hr : Rd w B A n (fun j => .int .i64 (f j))) (hf : ∀ j, j < n → I64 (f j)) (ht : I64 t) :
    Calls Try.prog 21 #[.slice A n c, .int .i64 t] w fun e w' => e = .returned (.int .i64 (vN f t n % 1073741789)) ∧ Below w.heap.size w w' := by
  have HF := Lib.hid hf
  have HR := Lib.hid hr
  have HT := Lib.hid ht
  clear hf hr ht
  go_enter Try.func21, Try.ntmps21
  go_wp2_with fail
  go_loopw [4, 5, 10] (fun y p i wr => ∃ k : Nat, k ≤ n ∧ i = .int .i64 k ∧ y = .int .i64 (vN f t k % 1073741789) ∧ p = .int .i64 (t ^ k % 1073741789) ∧ Below w.heap.size w wr) (fun _ _ i _ => n - (intOf i).toNat)
  case atStart => exact ⟨0, by omega, rfl, rfl, by rw [Int.pow_zero]; rfl, Below.refl _ _⟩
  case round =>
    obtain ⟨k, hk, rfl, rfl, rfl, hb⟩ := hrel
    by_cases hlt : k < n
    · obtain ⟨b, off, rfl, _, hc⟩ := (HR.out.below (hb.mono hB)) (by omega)
      have hck := hc k hlt
      have h1 := emodQ (vN f t k)
      have h2 := emodQ (t ^ k)
      have h3 := emodQ (f k * (t ^ k % 1073741789))
      have HV := Lib.hid (v_step f t k)
      have HP := Lib.hid (p_step t k)
      have HFK := Lib.hid (HF.out k hlt)
      have HB := Lib.hid hb
      clear hc hb
      generalize ev : vN f t k % 1073741789 = v at *
      generalize ep : t ^ k % 1073741789 = p at *
      clear ev ep
      have HPR := Lib.hid (i64_small (n := p) (by omega) (by omega))
      have HVR := Lib.hid (i64_small (n := v) (by omega) (by omega))
      have HMR := Lib.hid (i64_small (n := f k * p % 1073741789) (by omega) (by omega))
      go_wp2_with fail
      refine (mul_16 _ _ _ HFK.out HPR.out).mono ?_
      rintro e w' ⟨rfl, rfl⟩
      go_wp2_with fail
      refine (sum_two _ _ _ HVR.out HMR.out).mono ?_
      rintro e w' ⟨rfl, rfl⟩
      go_wp2_with fail
      refine (mul_16 _ _ _ HPR.out HT.out).mono ?_
      rintro e w' ⟨rfl, rfl⟩
      go_wp2_with fail
      go_roundw
      case rel => exact ⟨k + 1, by omega, by go_num, by rw [HV.out], by rw [HP.out], below_then HB.out (below_alloc _ _) (Nat.le_refl _)⟩
      case measure => simp [intOf]; omega
    · obtain rfl : n = k := by omega
      go_wp2_with fail
      go_ret
      exact ⟨rfl, hb⟩

theorem h_step {c : Nat → Int} {t y s : Int} {k : Nat} (h : Cg (y * t ^ (k + 1) + vN c t (k + 1)) s) : Cg ((y * t + c k) % 1073741789 * t ^ k + vN c t k) s := by
  refine Pl.Cg.trans ?_ h
  refine (((Pl.Cg.mod _).mul (Pl.Cg.refl _)).add (Pl.Cg.refl _)).trans (Pl.Cg.of_eq ?_)
  rw [Int.pow_succ]
  show _ = _ + (vN c t k + c k * t ^ k)
  grind
theorem h_end {c : Nat → Int} {t y s : Int} (h : Cg (y * t ^ 0 + vN c t 0) s) (h0 : 0 ≤ y) (h1 : y < 1073741789) : y = s % 1073741789 := by
  rw [← h.eq]
  simp [vN]
  omega

set_option maxHeartbeats 1000000 in
theorem value_22 (A : Option Addr) (n c B : Nat) (f : Nat → Int) (t : Int) (w : World) (hn : n ≤ 200) (hr : Rd w B A n (fun j => .int .i64 (f j))) (hf : ∀ j, j < n → I64 (f j)) (ht : I64 t) :
    Calls Try.prog 22 #[.slice A n c, .int .i64 t] w fun e w' => e = .returned (.int .i64 (vN f t n % 1073741789)) ∧ ∃ m, w' = w.drewN m := by
  have HF := Lib.hid hf
  have HR := Lib.hid hr
  have HT := Lib.hid ht
  clear hf hr ht
  have H0 : Hid (Cg (0 * t ^ n + vN f t n) (vN f t n)) := Lib.hid (Pl.Cg.of_eq (by omega))
  go_enter Try.func22, Try.ntmps22
  go_wp2_with fail
  go_loopw [5, 6] (fun y i wr => ∃ (k : Nat) (v : Int), k ≤ n ∧ i = .int .i64 ((k : Int) - 1) ∧ y = .int .i64 v ∧ 0 ≤ v ∧ v < 1073741789 ∧ Cg (v * t ^ k + vN f t k) (vN f t n) ∧ ∃ m, wr = w.drewN m) (fun _ i _ => (intOf i + 1).toNat)
  case atStart => exact ⟨n, 0, by omega, by go_num, rfl, by omega, by omega, H0.out, 0, rfl⟩
  case round =>
    obtain ⟨k, v, hk, rfl, rfl, hv0, hv1, hv, hm⟩ := hrel
    have HV := Lib.hid hv
    have HW := Lib.hid hm
    clear hv hm
    cases k with
    | zero =>
      go_wp2_with fail
      go_ret
      exact ⟨ret_int (h_end HV.out hv0 hv1), HW.out⟩
    | succ k =>
      obtain ⟨b, off, rfl, _, hc⟩ := (HR.out.quiet HW.out) (by omega)
      have hck := hc k (by omega)
      clear hc
      have hkk : ((k + 1 : Nat) : Int) - 1 = (k : Int) := by omega
      rw [hkk]
      clear hkk
      have h1 := emodQ (v * t)
      have h2 := emodQ (v * t + f k)
      have HH := Lib.hid (h_step HV.out)
      have HVR := Lib.hid (i64_small (n := v) (by omega) (by omega))
      have HMR := Lib.hid (i64_small (n := v * t % 1073741789) (by omega) (by omega))
      have HFK := Lib.hid (HF.out k (by omega))
      have hk1 : ((k : Int) < (n : Int)) := by omega
      go_wp2_with fail
      go_quiet (first
        | (go_at_call 17; exact quiet_l (mul_17 _ _ _ HVR.out HT.out))
        | (go_at_call 15; exact quiet_l (add_15 _ _ _ HMR.out HFK.out)))
      go_wp2_with fail
      go_roundw
      case rel => exact ⟨k, (v * t + f k) % 1073741789, by omega, rfl, by rw [Int.emod_add_emod], h2.1, h2.2, HH.out, quiet_more HW.out⟩
      case measure => simp [intOf]


/-! ### different points; few points -/
/-- the cells of a slice of points -/
def ptc (X Y : Nat → Int) (j : Nat) : Value := if j % 2 = 0 then .int .i64 (X (j / 2)) else .int .i64 (Y (j / 2))
theorem ptc_x (X Y : Nat → Int) (j : Nat) : ptc X Y (j * 2) = .int .i64 (X j) := by
  unfold ptc; rw [if_pos (by omega)]; congr 1; congr 1; omega
theorem ptc_y (X Y : Nat → Int) (j : Nat) : ptc X Y (j * 2 + 1) = .int .i64 (Y j) := by
  unfold ptc; rw [if_neg (by omega)]; congr 1; congr 1; omega

/-- a slice of n points -/
def RdP (w : World) (B : Nat) (A : Option Addr) (n : Nat) (X Y : Nat → Int) : Prop := Rd w B A (n * 2) (ptc X Y)
theorem RdP.at_ {w : World} {B : Nat} {A : Option Addr} {n : Nat} {X Y : Nat → Int} (h : RdP w B A n X Y) {k : Nat} (hk : k < n) :
    ∃ b off, A = some ⟨b, off, none⟩ ∧ b < B ∧ w.cell? ⟨b, off + k * 2, none⟩ = some (.int .i64 (X k)) ∧ w.cell? ⟨b, off + k * 2 + 1, none⟩ = some (.int .i64 (Y k)) := by
  obtain ⟨b, off, e, hb, hc⟩ := h (by omega)
  refine ⟨b, off, e, hb, ?_, ?_⟩
  · rw [hc (k * 2) (by omega), ptc_x]
  · rw [Nat.add_assoc, hc (k * 2 + 1) (by omega), ptc_y]
theorem RdP.quiet {w w' : World} {B : Nat} {A : Option Addr} {n : Nat} {X Y : Nat → Int} (h : RdP w B A n X Y) (hq : ∃ k, w' = w.drewN k) : RdP w' B A n X Y := Rd.quiet h hq

set_option maxHeartbeats 400000 in
theorem few_18 (A : Option Addr) (n c : Nat) (w : World) (hn : n ≤ 9223372036854775807) :
    Calls Try.prog 18 #[.slice A n c] w fun e w' => e = .returned (.bool (decide (n ≤ 70))) ∧ w = w' := by
  go_enter Try.func18, Try.ntmps18
  go_wp2_with fail
  go_ret
  exact ⟨ret_bool (by simp; omega), rfl⟩

/-- are the X pairwise different modulo the prime? -/
def distB (X : Nat → Int) (n : Nat) : Bool := (List.range n).all fun i => (List.range i).all fun k => X i % 1073741789 != X k % 1073741789
theorem distB_iff {X : Nat → Int} {n : Nat} : distB X n = true ↔ Pl.Dist n X := by
  simp [distB, Pl.Dist, Pl.cg_iff]
  exact ⟨fun h i k hi hk => h i hi k hk, fun h i hi k hk => h i k hi hk⟩

set_option maxHeartbeats 1000000 in
theorem diff_24 (A : Option Addr) (n c B : Nat) (X Y : Nat → Int) (w : World) (hn : n ≤ 200) (hr : RdP w B A n X Y) (hx : ∀ j, j < n → I64 (X j)) :
    Calls Try.prog 24 #[.slice A n c] w fun e w' => e = .returned (.bool (distB X n)) ∧ ∃ m, w' = w.drewN m := by
  have HX := Lib.hid hx
  have HR := Lib.hid hr
  clear hr hx
  go_enter Try.func24, Try.ntmps24
  go_wp2_with fail
  go_loopw [3] (fun i wr => ∃ (k : Nat), k ≤ n ∧ i = .int .i64 k ∧ (∃ m, wr = w.drewN m) ∧ ∀ i j, i < k → j < i → ¬ X i % 1073741789 = X j % 1073741789) (fun i _ => n - (intOf i).toNat)
  case atStart => exact ⟨0, by omega, rfl, ⟨0, rfl⟩, by intros; omega⟩
  case round =>
    obtain ⟨k, hk, rfl, hm, hd⟩ := hrel
    have HD := Lib.hid hd
    have HW := Lib.hid hm
    clear hd hm
    by_cases hlt : k < n
    · obtain ⟨wo, rfl⟩ : ∃ wo : World, wo = wr := ⟨_, rfl⟩
      go_wp2_with fail
      go_loopw [4] (fun i wr => ∃ (j : Nat), j ≤ k ∧ i = .int .i64 j ∧ (∃ m, wr = w.drewN m) ∧ ∀ i, i < j → ¬ X k % 1073741789 = X i % 1073741789) (fun i _ => k - (intOf i).toNat)
      case atStart => exact ⟨0, by omega, rfl, HW.out, by intros; omega⟩
      case round =>
        obtain ⟨j, hj, rfl, hm, hd⟩ := hrel
        have HE := Lib.hid hd
        have HV := Lib.hid hm
        clear hd hm
        by_cases hjt : j < k
        · obtain ⟨b, off, rfl, _, c1, _⟩ := (HR.out.quiet HV.out).at_ hlt
          obtain ⟨b', off', e', _, c2, _⟩ := (HR.out.quiet HV.out).at_ (k := j) (by omega)
          obtain ⟨rfl, rfl⟩ : b = b' ∧ off = off' := by simpa using e'
          clear e'
          have hb1 : (0 : Int) ≤ k := by omega
          have hb2 : (k : Int) < n := by omega
          have hb3 : (0 : Int) ≤ j := by omega
          have hb4 : (j : Int) < n := by omega
          by_cases heq : X k % 1073741789 = X j % 1073741789
          · have HDF : Hid (distB X n = false) := Lib.hid (Bool.eq_false_iff.2 fun h => distB_iff.1 h k j hlt hjt (Pl.cg_iff.1 heq))
            have hq : (X k % 1073741789 == X j % 1073741789) = true := by rw [beq_iff_eq]; exact heq
            clear heq
            go_wp2_with fail
            go_quiet ((go_at_call 13; exact quiet_l (mod_13 _ _ (HX.out _ (by omega)))))
            go_wp2_with fail
            go_ret
            exact ⟨ret_bool HDF.out.symm, quiet_more HV.out⟩
          · have HQ := Lib.hid heq
            have hq : (X k % 1073741789 == X j % 1073741789) = false := by rw [beq_eq_false_iff_ne]; exact heq
            clear heq
            go_wp2_with fail
            go_quiet ((go_at_call 13; exact quiet_l (mod_13 _ _ (HX.out _ (by omega)))))
            go_wp2_with fail
            go_roundw
            case rel => exact ⟨j + 1, by omega, by go_num, quiet_more HV.out, fun i hi => by
              by_cases e : i = j
              · subst e; exact HQ.out
              · exact HE.out i (by omega)⟩
            case measure => simp [intOf]; omega
        · obtain rfl : k = j := by omega
          go_wp2_with fail
          go_roundw
          case rel => exact ⟨k + 1, by omega, by go_num, HV.out, fun i' j' hi' hj' => by
              by_cases e : i' = k
              · subst e; exact HE.out j' hj'
              · exact HD.out i' j' (by omega) hj'⟩
          case measure => simp [intOf]; omega
    · obtain rfl : n = k := by omega
      have hdb : distB X n = true := distB_iff.2 fun i k hi hk h => HD.out i k hi hk h.eq
      have HDB := Lib.hid hdb
      clear hdb
      go_wp2_with fail
      go_ret
      exact ⟨ret_bool HDB.out.symm, HW.out⟩

end Go.Proofs.Ytklngacahhlhmaa
