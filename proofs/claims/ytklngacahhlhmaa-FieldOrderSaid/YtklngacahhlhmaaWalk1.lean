/- Contracts of the functions that add, multiply and invert modulo the prime: every machine integer. -/
import Derived.Test.YtklngacahhlhmaaBase
import Derived.Test.YtklngacahhlhmaaPoly
namespace Go.Proofs.Ytklngacahhlhmaa
open Go.RowKit

theorem tmod_cases (n : Int) : ∃ r : Int, n.tmod 1073741789 = r ∧ -1073741789 < r ∧ r < 1073741789 ∧ (r < 0 → r + 1073741789 = n % 1073741789) ∧ (0 ≤ r → r = n % 1073741789) := by
  refine ⟨_, rfl, ?_⟩
  have h := Int.tmod_eq_emod (a := n) (b := 1073741789)
  rw [h]
  have h1 := Int.emod_nonneg n (b := 1073741789) (by decide)
  have h2 := Int.emod_lt_of_pos n (b := 1073741789) (by decide)
  by_cases h3 : 0 ≤ n ∨ 1073741789 ∣ n
  · simp [h3]; omega
  · simp [h3]
    have : ¬ (1073741789 ∣ n) := fun h => h3 (.inr h)
    have : n % 1073741789 ≠ 0 := fun h => this (Int.dvd_of_emod_eq_zero h)
    omega

theorem emodQ (n : Int) : 0 ≤ n % 1073741789 ∧ n % 1073741789 < 1073741789 :=
  ⟨Int.emod_nonneg n (by decide), Int.emod_lt_of_pos n (by decide)⟩

set_option maxHeartbeats 400000 in
theorem mod_12 (n : Int) (w : World) (hn : I64 n) :
    Calls Try.prog 12 #[.int .i64 n] w fun e w' => e = .returned (.int .i64 (n % 1073741789)) ∧ w = w' := by
  obtain ⟨h1, h2⟩ := hn
  obtain ⟨r, hr, hr1, hr2, hr3, hr4⟩ := tmod_cases n
  have hb := emodQ n
  have H3 := Lib.hid hr3
  have H4 := Lib.hid hr4
  have HB := Lib.hid hb
  clear hr3 hr4 hb
  go_enter Try.func12, Try.ntmps12
  go_wp2
  · go_ret
    exact ⟨ret_int (H3.out (by assumption)), rfl⟩
  · go_ret
    exact ⟨ret_int (H4.out (by assumption)), rfl⟩

set_option maxHeartbeats 400000 in
theorem mod_13 (n : Int) (w : World) (hn : I64 n) :
    Calls Try.prog 13 #[.int .i64 n] w fun e w' => e = .returned (.int .i64 (n % 1073741789)) ∧ w = w' := by
  obtain ⟨h1, h2⟩ := hn
  obtain ⟨r, hr, hr1, hr2, hr3, hr4⟩ := tmod_cases n
  have hb := emodQ n
  have H3 := Lib.hid hr3
  have H4 := Lib.hid hr4
  have HB := Lib.hid hb
  clear hr3 hr4 hb
  go_enter Try.func13, Try.ntmps13
  go_wp2
  · go_ret
    exact ⟨ret_int (H3.out (by assumption)), rfl⟩
  · go_ret
    exact ⟨ret_int (H4.out (by assumption)), rfl⟩


theorem mul_bd {a b : Int} (ha : 0 ≤ a ∧ a < 1073741789) (hb : 0 ≤ b ∧ b < 1073741789) : 0 ≤ a * b ∧ a * b ≤ 1152921504606846976 := by
  refine ⟨Int.mul_nonneg ha.1 hb.1, ?_⟩
  have h1 : a * b ≤ 1073741824 * b := Int.mul_le_mul_of_nonneg_right (by omega) hb.1
  have h2 : (1073741824 : Int) * b ≤ 1073741824 * 1073741824 := Int.mul_le_mul_of_nonneg_left (by omega) (by omega)
  omega

set_option maxHeartbeats 400000 in
theorem mul_16 (a b : Int) (w : World) (ha : I64 a) (hb : I64 b) :
    Calls Try.prog 16 #[.int .i64 a, .int .i64 b] w fun e w' => e = .returned (.int .i64 (a * b % 1073741789)) ∧ w = w' := by
  have h1 := emodQ a
  have h2 := emodQ b
  have h3 := mul_bd h1 h2
  have HM := Lib.hid (Int.mul_emod a b 1073741789)
  have HA := Lib.hid ha
  have HB := Lib.hid hb
  clear ha hb
  generalize ea : a % 1073741789 = a' at *
  generalize eb : b % 1073741789 = b' at *
  have EA := Lib.hid ea
  have EB := Lib.hid eb
  clear ea eb
  obtain ⟨h31, h32⟩ := h3
  go_enter Try.func16, Try.ntmps16
  go_wp2_with fail
  refine (mod_12 _ _ HA.out).mono ?_
  rintro e w' ⟨rfl, rfl⟩
  rw [EA.out]
  go_wp2_with fail
  refine (mod_12 _ _ HB.out).mono ?_
  rintro e w' ⟨rfl, rfl⟩
  rw [EB.out]
  go_wp2_with fail
  go_ret
  exact ⟨ret_int HM.out.symm, rfl⟩


set_option maxHeartbeats 400000 in
theorem mul_17 (a b : Int) (w : World) (ha : I64 a) (hb : I64 b) :
    Calls Try.prog 17 #[.int .i64 a, .int .i64 b] w fun e w' => e = .returned (.int .i64 (a * b % 1073741789)) ∧ w = w' := by
  have h1 := emodQ a
  have h2 := emodQ b
  have h3 := mul_bd h1 h2
  have HM := Lib.hid (Int.mul_emod a b 1073741789)
  have HA := Lib.hid ha
  have HB := Lib.hid hb
  clear ha hb
  generalize ea : a % 1073741789 = a' at *
  generalize eb : b % 1073741789 = b' at *
  have EA := Lib.hid ea
  have EB := Lib.hid eb
  clear ea eb
  obtain ⟨h31, h32⟩ := h3
  go_enter Try.func17, Try.ntmps17
  go_wp2_with fail
  refine (mod_13 _ _ HA.out).mono ?_
  rintro e w' ⟨rfl, rfl⟩
  rw [EA.out]
  go_wp2_with fail
  refine (mod_13 _ _ HB.out).mono ?_
  rintro e w' ⟨rfl, rfl⟩
  rw [EB.out]
  go_wp2_with fail
  go_ret
  exact ⟨ret_int HM.out.symm, rfl⟩


open Pl (sumN)
theorem sumQ_succ (f : Nat → Int) (k : Nat) : (sumN f k % 1073741789 + f k % 1073741789) % 1073741789 = sumN f (k + 1) % 1073741789 := by
  simp [sumN, Int.add_emod]

set_option maxHeartbeats 400000 in
theorem sum_26 (A : Option Addr) (n c B : Nat) (f : Nat → Int) (w : World) (hn : n ≤ 100) (hr : Rd w B A n (fun j => .int .i64 (f j))) (hf : ∀ j, j < n → I64 (f j)) :
    Calls Try.prog 26 #[.slice A n c] w fun e w' => e = .returned (.int .i64 (sumN f n % 1073741789)) ∧ w = w' := by
  have HF := Lib.hid hf
  have HR := Lib.hid hr
  clear hf hr
  go_enter Try.func26, Try.ntmps26
  go_wp2_with fail
  go_loop [3, 8] (fun x i => ∃ k : Nat, k ≤ n ∧ i = .int .i64 k ∧ x = .int .i64 (sumN f k % 1073741789)) (fun _ i => n - (intOf i).toNat)
  case atStart => exact ⟨0, by omega, rfl, rfl⟩
  case round =>
    obtain ⟨k, hk, rfl, rfl⟩ := hrel
    by_cases hlt : k < n
    · obtain ⟨b, off, rfl, _, hc⟩ := HR.out (by omega)
      have hck := hc k hlt
      clear hc
      have h1 := emodQ (sumN f k)
      have h2 := emodQ (f k)
      have HS := Lib.hid (sumQ_succ f k)
      generalize es : sumN f k % 1073741789 = s at *
      generalize ef : f k % 1073741789 = z at *
      have ES := Lib.hid es
      have EF := Lib.hid ef
      clear es ef
      obtain ⟨h11, h12⟩ := h1
      obtain ⟨h21, h22⟩ := h2
      go_wp2_with fail
      refine (mod_12 _ _ (HF.out k hlt)).mono ?_
      rintro e w' ⟨rfl, rfl⟩
      rw [EF.out]
      go_wp2_with fail
      go_round
      case rel => exact ⟨k + 1, by omega, by go_num, by rw [← HS.out]⟩
      case measure => simp [intOf]; omega
    · obtain rfl : n = k := by omega
      go_wp2_with fail
      go_ret
      exact ⟨rfl, rfl⟩


theorem add_em (a b : Int) : (a % 1073741789 + b % 1073741789) % 1073741789 = (a + b) % 1073741789 := by rw [← Int.add_emod]

set_option maxHeartbeats 400000 in
theorem add_15 (a b : Int) (w : World) (ha : I64 a) (hb : I64 b) :
    Calls Try.prog 15 #[.int .i64 a, .int .i64 b] w fun e w' => e = .returned (.int .i64 ((a + b) % 1073741789)) ∧ w = w' := by
  have h1 := emodQ a
  have h2 := emodQ b
  have HM := Lib.hid (add_em a b)
  have HA := Lib.hid ha
  have HB := Lib.hid hb
  clear ha hb
  generalize ea : a % 1073741789 = a' at *
  generalize eb : b % 1073741789 = b' at *
  have EA := Lib.hid ea
  have EB := Lib.hid eb
  clear ea eb
  go_enter Try.func15, Try.ntmps15
  go_wp2_with fail
  refine (mod_13 _ _ HA.out).mono ?_
  rintro e w' ⟨rfl, rfl⟩
  rw [EA.out]
  go_wp2_with fail
  refine (mod_13 _ _ HB.out).mono ?_
  rintro e w' ⟨rfl, rfl⟩
  rw [EB.out]
  go_wp2_with fail
  go_ret
  exact ⟨ret_int HM.out, rfl⟩

def two (a b : Int) : Nat → Int | 0 => a | _ => b
theorem two_sum (a b : Int) : sumN (two a b) 2 = a + b := by simp [sumN, two]
theorem two_i64 {a b : Int} (ha : I64 a) (hb : I64 b) : ∀ j, j < 2 → I64 (two a b j) := by
  intro j hj
  match j, hj with
  | 0, _ => exact ha
  | 1, _ => exact hb
theorem two_cells (a b : Int) : ∀ j, j < #[Value.int .i64 a, Value.int .i64 b].size → #[Value.int .i64 a, Value.int .i64 b][j]? = some (.int .i64 (two a b j)) := by
  intro j hj
  match j, hj with
  | 0, _ => rfl
  | 1, _ => rfl

/-- sum of two numbers that lie in a block that was just laid -/
theorem sum_two (a b : Int) (w : World) (ha : I64 a) (hb : I64 b) :
    Calls Try.prog 26 #[.slice (some ⟨w.heap.size, 0, none⟩) 2 2] (w.alloc (.cells #[.int .i64 a, .int .i64 b] 3)) fun e w' =>
      e = .returned (.int .i64 ((a + b) % 1073741789)) ∧ (w.alloc (.cells #[.int .i64 a, .int .i64 b] 3)) = w' := by
  have h := sum_26 _ 2 2 _ (two a b) _ (by omega) (rd_new w #[.int .i64 a, .int .i64 b] 3 _ (two_cells a b)) (two_i64 ha hb)
  rwa [two_sum] at h

set_option maxHeartbeats 400000 in
theorem add_14 (a b : Int) (w : World) (ha : I64 a) (hb : I64 b) :
    Calls Try.prog 14 #[.int .i64 a, .int .i64 b] w fun e w' => e = .returned (.int .i64 ((a + b) % 1073741789)) ∧ Below w.heap.size w w' := by
  go_enter Try.func14, Try.ntmps14
  go_wp2_with fail
  refine (sum_two a b w ha hb).mono ?_
  rintro e w' ⟨rfl, rfl⟩
  go_wp2_with fail
  go_ret
  exact ⟨rfl, below_alloc _ _⟩

/-! ### the inverse -/
open Pl (inv eQ Cg)

theorem pw_odd {x s : Int} {k : Nat} (h : k % 2 = 1) : Cg ((x * s % 1073741789) * (s * s % 1073741789) ^ (k / 2)) (x * s ^ k) := by
  refine ((Cg.mod _).mul ((Cg.mod _).pow _)).trans (Cg.of_eq ?_)
  obtain ⟨m, hm⟩ : ∃ m, k / 2 = m := ⟨_, rfl⟩
  have : k = m + m + 1 := by omega
  subst this
  rw [hm, Int.mul_pow, Int.pow_succ, Int.pow_add]
  grind
theorem pw_even {x s : Int} {k : Nat} (h : ¬ k % 2 = 1) : Cg (x * (s * s % 1073741789) ^ (k / 2)) (x * s ^ k) := by
  refine ((Cg.refl x).mul ((Cg.mod _).pow _)).trans (Cg.of_eq ?_)
  obtain ⟨m, hm⟩ : ∃ m, k / 2 = m := ⟨_, rfl⟩
  have : k = m + m := by omega
  subst this
  rw [hm, Int.mul_pow, Int.pow_add]


def eInv (n : Int) : Int := if n % 1073741789 = 0 then 90 else 0

theorem pw_zero {x n : Int} (h : Cg (x * 1) (n ^ eQ)) (h0 : 0 ≤ x) (h1 : x < 1073741789) : x = inv n := by
  have := h.eq
  unfold inv
  rw [← this]
  omega

set_option maxHeartbeats 1000000 in
theorem inv_10 (n : Int) (w : World) (hn : I64 n) :
    Calls Try.prog 10 #[.int .i64 n] w fun e w' => e = .returned (.tuple #[.int .i64 (inv n), .int .i64 (eInv n)]) ∧ w = w' := by
  have HN := Lib.hid hn
  clear hn
  by_cases hz : n % 1073741789 = 0
  · have HI := Lib.hid (Pl.inv_zero (Pl.cg_zero.2 hz))
    have HZ := Lib.hid hz
    clear hz
    go_enter Try.func10, Try.ntmps10
    go_wp2_with fail
    go_step3
    go_wp2_with fail
    refine (mod_12 _ _ HN.out).mono ?_
    rintro e w' ⟨rfl, rfl⟩
    rw [HZ.out]
    go_wp2_with fail
    try rw [Exit.noGoto_ret]
    go_ret2
    exact ⟨ret_int2 HI.out.symm (by rw [eInv, if_pos HZ.out]), rfl⟩
  · have HZ := Lib.hid hz
    have hz2 : (n % 1073741789 == 0) = false := beq_eq_false_iff_ne.2 hz
    have h0 : Cg (1 * n ^ eQ) (n ^ eQ) := Pl.Cg.of_eq (by omega)
    have hx : (1073741787 : Int) = ((eQ : Nat) : Int) := Pl.eQ_cast
    have HX := Lib.hid hx
    have H0 := Lib.hid h0
    clear hz hx h0
    go_enter Try.func10, Try.ntmps10
    go_wp2_with fail
    go_step3
    go_wp2_with fail
    refine (mod_12 _ _ HN.out).mono ?_
    rintro e w' ⟨rfl, rfl⟩
    go_wp2_with fail
    go_step3
    go_wp2_with fail
    go_loop [2, 4, 5] (fun x l s => ∃ (k : Nat) (y z : Int), k ≤ 1073741787 ∧ l = .int .i64 k ∧ x = .int .i64 y ∧ s = .int .i64 z ∧ 0 ≤ y ∧ y < 1073741789 ∧ I64 z ∧ Cg (y * z ^ k) (n ^ eQ)) (fun _ l _ => (intOf l).toNat)
    case atStart => exact ⟨eQ, 1, n, by have := HX.out; omega, by rw [← HX.out], rfl, rfl, by omega, by omega, HN.out, H0.out⟩
    case round =>
      obtain ⟨k, y, z, hk, rfl, rfl, rfl, hy0, hy1, hz1, hc⟩ := hrel
      have HC := Lib.hid hc
      have HZ1 := Lib.hid hz1
      clear hc hz1
      by_cases hk0 : k = 0
      · subst hk0
        go_wp2_with fail
        try rw [Exit.noGoto_ret]
        go_ret2
        have hh := HC.out
        rw [Int.pow_zero] at hh
        exact ⟨ret_int2 (pw_zero hh hy0 hy1) (by rw [eInv, if_neg HZ.out]), rfl⟩
      · have hk1 : 0 < k := by omega
        clear hk0
        have hyz := emodQ (y * z)
        have hzz := emodQ (z * z)
        have hyr := i64_small (n := y) (by omega) (by omega)
        have HYR := Lib.hid hyr
        clear hyr
        by_cases hodd : k % 2 = 1
        · have hb : (((k : Int) % 2) == 1) = true := by rw [beq_iff_eq]; omega
          have HP := Lib.hid (pw_odd (x := y) (s := z) hodd)
          clear hodd
          go_wp2_with fail
          refine (mul_16 _ _ _ HYR.out HZ1.out).mono ?_
          rintro e w' ⟨rfl, rfl⟩
          go_wp2_with fail
          refine (mul_16 _ _ _ HZ1.out HZ1.out).mono ?_
          rintro e w' ⟨rfl, rfl⟩
          go_wp2_with fail
          go_round
          case rel => exact ⟨k / 2, _, _, by omega, by go_num, rfl, rfl, hyz.1, hyz.2, i64_small (by omega) (by omega), HP.out.trans HC.out⟩
          case measure => simp [intOf]; omega
        · have hb : (((k : Int) % 2) == 1) = false := by rw [beq_eq_false_iff_ne]; omega
          have HP := Lib.hid (pw_even (x := y) (s := z) hodd)
          clear hodd
          go_wp2_with fail
          refine (mul_16 _ _ _ HZ1.out HZ1.out).mono ?_
          rintro e w' ⟨rfl, rfl⟩
          go_wp2_with fail
          go_round
          case rel => exact ⟨k / 2, _, _, by omega, by go_num, rfl, rfl, hy0, hy1, i64_small (by omega) (by omega), HP.out.trans HC.out⟩
          case measure => simp [intOf]; omega

end Go.Proofs.Ytklngacahhlhmaa
