/- Contract of the law FieldLaws: it returns true for every three integers. -/
import Derived.Test.YtklngacahhlhmaaSane
namespace Go.Proofs.Ytklngacahhlhmaa
open Go.RowKit
open Pl (inv eQ Cg sumN prodN lagr)

theorem modr (a : Int) : a % 1073741789 % 1073741789 = a % 1073741789 := (Pl.Cg.mod a).eq
theorem q_comm (a b : Int) : (b % 1073741789 + a % 1073741789) % 1073741789 = (a + b) % 1073741789 := by rw [Pl.cg_iff]; exact ((Pl.Cg.mod b).add (Pl.Cg.mod a)).trans (Pl.Cg.of_eq (by omega))
theorem q_mcomm (a b : Int) : b % 1073741789 * (a % 1073741789) % 1073741789 = a * b % 1073741789 := by rw [Pl.cg_iff]; exact ((Pl.Cg.mod b).mul (Pl.Cg.mod a)).trans (Pl.Cg.of_eq (Int.mul_comm _ _))
theorem q_assoc (a b c : Int) : (a + (b + c) % 1073741789) % 1073741789 = ((a + b) % 1073741789 + c) % 1073741789 := by
  rw [Pl.cg_iff]; exact ((Pl.Cg.refl a).add (Pl.Cg.mod _)).trans ((Pl.Cg.of_eq (by omega)).trans ((Pl.Cg.mod (a + b)).add (Pl.Cg.refl c)).symm)
theorem q_massoc (a b c : Int) : a * (b * c % 1073741789) % 1073741789 = a * b % 1073741789 * c % 1073741789 := by
  rw [Pl.cg_iff]; exact ((Pl.Cg.refl a).mul (Pl.Cg.mod _)).trans ((Pl.Cg.of_eq (by grind)).trans ((Pl.Cg.mod (a * b)).mul (Pl.Cg.refl c)).symm)
theorem q_dist (a b c : Int) : (a * b % 1073741789 + a * c % 1073741789) % 1073741789 = a * ((b + c) % 1073741789) % 1073741789 := by
  rw [Pl.cg_iff]; exact ((Pl.Cg.mod _).add (Pl.Cg.mod _)).trans ((Pl.Cg.of_eq (by grind)).trans ((Pl.Cg.refl a).mul (Pl.Cg.mod (b + c))).symm)
theorem q_zero (a b : Int) : a * b % 1073741789 = 0 ↔ a % 1073741789 = 0 ∨ b % 1073741789 = 0 := by
  rw [← Pl.cg_zero, ← Pl.cg_zero, ← Pl.cg_zero]
  constructor
  · exact Pl.mul_zero
  · rintro (h | h)
    · exact (h.mul (Pl.Cg.refl b)).trans (Pl.Cg.of_eq (by omega))
    · exact ((Pl.Cg.refl a).mul h).trans (Pl.Cg.of_eq (by omega))

theorem eq_b {a b : Int} (h : a = b) : (a == b) = true := beq_iff_eq.2 h
theorem ne_b {a b : Int} (h : a ≠ b) : (a == b) = false := beq_eq_false_iff_ne.2 h

set_option maxRecDepth 100000 in
set_option maxHeartbeats 8000000 in
theorem laws_5 (a b c : Int) (w : World) (ha : I64 a) (hb : I64 b) (hc : I64 c) : Calls Try.prog 5 #[.int .i64 a, .int .i64 b, .int .i64 c] w fun e w' => e = .returned (.bool true) ∧ Below w.heap.size w w' := by
  have HA := Lib.hid ha
  have HB := Lib.hid hb
  have HC := Lib.hid hc
  have ha1 := ha.1
  have ha2 := ha.2
  have rx := emodQ a
  have ry := emodQ b
  have rz := emodQ c
  have rs := emodQ (a + b)
  have ru := emodQ (b + c)
  have rm := emodQ (a * b)
  have rv := emodQ (b * c)
  have rm' := emodQ (a * c)
  have rs3 := emodQ ((a + b) % 1073741789 + c)
  have rm3 := emodQ (a * b % 1073741789 * c)
  have rd := emodQ (a * ((b + c) % 1073741789))
  have q0 := modr a
  have q1 := q_comm a b
  have q2 := q_mcomm a b
  have q3 := q_assoc a b c
  have q4 := q_massoc a b c
  have q5 := q_dist a b c
  have q6 : (a + 0) % 1073741789 = a % 1073741789 := by rw [Int.add_zero]
  have q7 : a * 1 % 1073741789 = a % 1073741789 := by rw [Int.mul_one]
  have q8 : (a % 1073741789 + -(a % 1073741789)) % 1073741789 = 0 := by rw [Int.add_right_neg]; rfl
  have q9 := q_zero a b
  have q10 : 0 ≤ a → (a - a % 1073741789) % 1073741789 = 0 := fun _ => by omega
  have q11 : 0 ≤ a → 0 ≤ a - a % 1073741789 := fun h => by omega
  have q12 : a % 1073741789 ≠ 0 → a * inv a % 1073741789 = 1 := fun h => by
    have := (Pl.inv_mul (a := a) (fun h' => h (Pl.cg_zero.1 h'))).eq
    exact this
  have q13 : a % 1073741789 = 0 → inv a = 0 := fun h => Pl.inv_zero (Pl.cg_zero.2 h)
  have q14 : eInv a = if a % 1073741789 = 0 then 90 else 0 := rfl
  have rin := Pl.inv_range a
  generalize hm3 : a * b % 1073741789 * c % 1073741789 = m3 at *
  generalize hs3 : ((a + b) % 1073741789 + c) % 1073741789 = s3 at *
  generalize hd : a * ((b + c) % 1073741789) % 1073741789 = d at *
  generalize hs : (a + b) % 1073741789 = s at *
  generalize hu : (b + c) % 1073741789 = u at *
  generalize hm : a * b % 1073741789 = m at *
  generalize hv : b * c % 1073741789 = v at *
  generalize hm' : a * c % 1073741789 = m' at *
  generalize hx : a % 1073741789 = x at *
  generalize hy : b % 1073741789 = y at *
  generalize hz : c % 1073741789 = z at *
  generalize hi : inv a = i at *
  generalize he : eInv a = ee at *
  have RX := Lib.hid (i64_small (n := x) (by omega) (by omega))
  have RNX := Lib.hid (i64_small (n := -x) (by omega) (by omega))
  have RY := Lib.hid (i64_small (n := y) (by omega) (by omega))
  have RS := Lib.hid (i64_small (n := s) (by omega) (by omega))
  have RU := Lib.hid (i64_small (n := u) (by omega) (by omega))
  have RM := Lib.hid (i64_small (n := m) (by omega) (by omega))
  have RV := Lib.hid (i64_small (n := v) (by omega) (by omega))
  have RM' := Lib.hid (i64_small (n := m') (by omega) (by omega))
  have RI := Lib.hid (i64_small (n := i) (by omega) (by omega))
  have IX := Lib.hid rx
  have IY := Lib.hid ry
  have IZ := Lib.hid rz
  have II := Lib.hid rin
  obtain ⟨rx1, rx2⟩ := rx
  have HM3 := Lib.hid hm3; have HS3 := Lib.hid hs3; have HD := Lib.hid hd; have HS := Lib.hid hs; have HU := Lib.hid hu; have HM := Lib.hid hm; have HV := Lib.hid hv; have HM' := Lib.hid hm'
  have HX := Lib.hid hx; have HY := Lib.hid hy; have HZ := Lib.hid hz; have HI := Lib.hid hi; have HE := Lib.hid he
  have Q0 := Lib.hid q0; have Q1 := Lib.hid q1; have Q2 := Lib.hid q2; have Q3 := Lib.hid q3; have Q4 := Lib.hid q4; have Q5 := Lib.hid q5; have Q6 := Lib.hid q6; have Q7 := Lib.hid q7; have Q8 := Lib.hid q8; have Q12 := Lib.hid q12
  have hsub : ∃ t : Bool, ((wrap64 (a - x)).tmod 1073741789 != 0) = t := ⟨_, rfl⟩
  have cases_ : (0 ≤ a ∨ a < 0) ∧ ((x == 0) = true ∧ ee = 90 ∧ i = 0 ∧ (m == 0) = true ∨ (x == 0) = false ∧ ee = 0 ∧ (m == 0) = (y == 0)) ∧ ((y == 0) = true ∨ (y == 0) = false) := by
    refine ⟨by omega, ?_, ?_⟩
    · by_cases h : x = 0
      · left
        exact ⟨eq_b h, by rw [q14, if_pos h], q13 h, eq_b (q9.2 (.inl h))⟩
      · right
        refine ⟨ne_b h, by rw [q14, if_neg h], ?_⟩
        by_cases h2 : y = 0
        · rw [eq_b h2, eq_b (q9.2 (.inr h2))]
        · rw [ne_b h2, ne_b (fun h3 => (q9.1 h3).elim h h2)]
    · cases (y == 0) <;> simp
  clear ha hb hc hm3 hs3 hd hs hu hm hv hm' hx hy hz hi he q0 q1 q2 q3 q4 q5 q6 q7 q8 q9 q12 q13 q14 ry rz rs ru rm rv rm' rs3 rm3 rd rin
  obtain ⟨h1, h2, h3⟩ := cases_
  have H3 := Lib.hid h3
  clear h3
  rcases h2 with ⟨h21, rfl, rfl, h24⟩ | ⟨h21, rfl, h23⟩
  · rcases h1 with h1 | h1
    · have hz0 := q10 h1
      have hz1 := q11 h1
      clear q10 q11 hsub
      go_enter Try.func5, Try.ntmps5
      go_wp2_with fail
      refine (sane_9 _).mono ?_
      rintro e W1 ⟨rfl, hb⟩
      have B1 := Lib.hid hb
      clear hb
      go_wp2_with fail
      refine (mod_12 _ _ HA.out).mono ?_
      rintro e w' ⟨rfl, rfl⟩
      rw [HX.out]
      go_wp2_with fail
      refine (mod_12 _ _ HB.out).mono ?_
      rintro e w' ⟨rfl, rfl⟩
      rw [HY.out]
      go_wp2_with fail
      refine (mod_12 _ _ HC.out).mono ?_
      rintro e w' ⟨rfl, rfl⟩
      rw [HZ.out]
      go_wp2_with fail
      refine (in_23 _ _ IX.out).mono ?_
      rintro e w' ⟨rfl, rfl⟩
      go_wp2_with fail
      refine (in_23 _ _ IY.out).mono ?_
      rintro e w' ⟨rfl, rfl⟩
      go_wp2_with fail
      refine (in_23 _ _ IZ.out).mono ?_
      rintro e w' ⟨rfl, rfl⟩
      go_wp2_with fail
      refine (mod_12 _ _ RX.out).mono ?_
      rintro e w' ⟨rfl, rfl⟩
      rw [Q0.out]
      go_wp2_with fail
      refine (add_14 _ _ _ HA.out HB.out).mono ?_
      rintro e W2 ⟨rfl, hb⟩
      have B2 := Lib.hid (below_then B1.out hb (Nat.le_refl _))
      clear hb
      rw [HS.out]
      go_wp2_with fail
      refine (add_14 _ _ _ RY.out RX.out).mono ?_
      rintro e W3 ⟨rfl, hb⟩
      have B3 := Lib.hid (below_then B2.out hb (Nat.le_refl _))
      clear hb
      rw [Q1.out]
      go_wp2_with fail
      refine (mul_16 _ _ _ HA.out HB.out).mono ?_
      rintro e w' ⟨rfl, rfl⟩
      rw [HM.out]
      go_wp2_with fail
      refine (mul_16 _ _ _ RY.out RX.out).mono ?_
      rintro e w' ⟨rfl, rfl⟩
      rw [Q2.out]
      go_wp2_with fail
      refine (add_14 _ _ _ HA.out HB.out).mono ?_
      rintro e W4 ⟨rfl, hb⟩
      have B4 := Lib.hid (below_then B3.out hb (Nat.le_refl _))
      clear hb
      rw [HS.out]
      go_wp2_with fail
      refine (add_14 _ _ _ RS.out HC.out).mono ?_
      rintro e W5 ⟨rfl, hb⟩
      have B5 := Lib.hid (below_then B4.out hb (Nat.le_refl _))
      clear hb
      rw [HS3.out]
      go_wp2_with fail
      refine (add_14 _ _ _ HB.out HC.out).mono ?_
      rintro e W6 ⟨rfl, hb⟩
      have B6 := Lib.hid (below_then B5.out hb (Nat.le_refl _))
      clear hb
      rw [HU.out]
      go_wp2_with fail
      refine (add_14 _ _ _ HA.out RU.out).mono ?_
      rintro e W7 ⟨rfl, hb⟩
      have B7 := Lib.hid (below_then B6.out hb (Nat.le_refl _))
      clear hb
      rw [Q3.out]
      go_wp2_with fail
      refine (mul_16 _ _ _ HA.out HB.out).mono ?_
      rintro e w' ⟨rfl, rfl⟩
      rw [HM.out]
      go_wp2_with fail
      refine (mul_16 _ _ _ RM.out HC.out).mono ?_
      rintro e w' ⟨rfl, rfl⟩
      rw [HM3.out]
      go_wp2_with fail
      refine (mul_16 _ _ _ HB.out HC.out).mono ?_
      rintro e w' ⟨rfl, rfl⟩
      rw [HV.out]
      go_wp2_with fail
      refine (mul_16 _ _ _ HA.out RV.out).mono ?_
      rintro e w' ⟨rfl, rfl⟩
      rw [Q4.out]
      go_wp2_with fail
      refine (add_14 _ _ _ HB.out HC.out).mono ?_
      rintro e W8 ⟨rfl, hb⟩
      have B8 := Lib.hid (below_then B7.out hb (Nat.le_refl _))
      clear hb
      rw [HU.out]
      go_wp2_with fail
      refine (mul_16 _ _ _ HA.out RU.out).mono ?_
      rintro e w' ⟨rfl, rfl⟩
      rw [HD.out]
      go_wp2_with fail
      refine (mul_16 _ _ _ HA.out HB.out).mono ?_
      rintro e w' ⟨rfl, rfl⟩
      rw [HM.out]
      go_wp2_with fail
      refine (mul_16 _ _ _ HA.out HC.out).mono ?_
      rintro e w' ⟨rfl, rfl⟩
      rw [HM'.out]
      go_wp2_with fail
      refine (add_14 _ _ _ RM.out RM'.out).mono ?_
      rintro e W9 ⟨rfl, hb⟩
      have B9 := Lib.hid (below_then B8.out hb (Nat.le_refl _))
      clear hb
      rw [Q5.out]
      go_wp2_with fail
      refine (add_14 _ _ _ HA.out (small _ (by decide))).mono ?_
      rintro e W10 ⟨rfl, hb⟩
      have B10 := Lib.hid (below_then B9.out hb (Nat.le_refl _))
      clear hb
      rw [Q6.out]
      go_wp2_with fail
      refine (mul_16 _ _ _ HA.out (small _ (by decide))).mono ?_
      rintro e w' ⟨rfl, rfl⟩
      rw [Q7.out]
      go_wp2_with fail
      refine (add_14 _ _ _ RX.out RNX.out).mono ?_
      rintro e W11 ⟨rfl, hb⟩
      have B11 := Lib.hid (below_then B10.out hb (Nat.le_refl _))
      clear hb
      rw [Q8.out]
      go_wp2_with fail
      refine (mul_16 _ _ _ HA.out HB.out).mono ?_
      rintro e w' ⟨rfl, rfl⟩
      rw [HM.out]
      go_wp2_with fail
      refine (inv_10 _ _ HA.out).mono ?_
      rintro e w' ⟨rfl, rfl⟩
      rw [HI.out, HE.out]
      go_wp2_with fail
      go_ret
      exact ⟨rfl, B11.out⟩
    · clear q10 q11
      obtain ⟨t, ht⟩ := hsub
      cases t
      all_goals
        go_enter Try.func5, Try.ntmps5
        go_wp2_with fail
        refine (sane_9 _).mono ?_
        rintro e W1 ⟨rfl, hb⟩
        have B1 := Lib.hid hb
        clear hb
        go_wp2_with fail
        refine (mod_12 _ _ HA.out).mono ?_
        rintro e w' ⟨rfl, rfl⟩
        rw [HX.out]
        go_wp2_with fail
        refine (mod_12 _ _ HB.out).mono ?_
        rintro e w' ⟨rfl, rfl⟩
        rw [HY.out]
        go_wp2_with fail
        refine (mod_12 _ _ HC.out).mono ?_
        rintro e w' ⟨rfl, rfl⟩
        rw [HZ.out]
        go_wp2_with fail
        refine (in_23 _ _ IX.out).mono ?_
        rintro e w' ⟨rfl, rfl⟩
        go_wp2_with fail
        refine (in_23 _ _ IY.out).mono ?_
        rintro e w' ⟨rfl, rfl⟩
        go_wp2_with fail
        refine (in_23 _ _ IZ.out).mono ?_
        rintro e w' ⟨rfl, rfl⟩
        go_wp2_with fail
        refine (mod_12 _ _ RX.out).mono ?_
        rintro e w' ⟨rfl, rfl⟩
        rw [Q0.out]
        go_wp2_with fail
        refine (add_14 _ _ _ HA.out HB.out).mono ?_
        rintro e W2 ⟨rfl, hb⟩
        have B2 := Lib.hid (below_then B1.out hb (Nat.le_refl _))
        clear hb
        rw [HS.out]
        go_wp2_with fail
        refine (add_14 _ _ _ RY.out RX.out).mono ?_
        rintro e W3 ⟨rfl, hb⟩
        have B3 := Lib.hid (below_then B2.out hb (Nat.le_refl _))
        clear hb
        rw [Q1.out]
        go_wp2_with fail
        refine (mul_16 _ _ _ HA.out HB.out).mono ?_
        rintro e w' ⟨rfl, rfl⟩
        rw [HM.out]
        go_wp2_with fail
        refine (mul_16 _ _ _ RY.out RX.out).mono ?_
        rintro e w' ⟨rfl, rfl⟩
        rw [Q2.out]
        go_wp2_with fail
        refine (add_14 _ _ _ HA.out HB.out).mono ?_
        rintro e W4 ⟨rfl, hb⟩
        have B4 := Lib.hid (below_then B3.out hb (Nat.le_refl _))
        clear hb
        rw [HS.out]
        go_wp2_with fail
        refine (add_14 _ _ _ RS.out HC.out).mono ?_
        rintro e W5 ⟨rfl, hb⟩
        have B5 := Lib.hid (below_then B4.out hb (Nat.le_refl _))
        clear hb
        rw [HS3.out]
        go_wp2_with fail
        refine (add_14 _ _ _ HB.out HC.out).mono ?_
        rintro e W6 ⟨rfl, hb⟩
        have B6 := Lib.hid (below_then B5.out hb (Nat.le_refl _))
        clear hb
        rw [HU.out]
        go_wp2_with fail
        refine (add_14 _ _ _ HA.out RU.out).mono ?_
        rintro e W7 ⟨rfl, hb⟩
        have B7 := Lib.hid (below_then B6.out hb (Nat.le_refl _))
        clear hb
        rw [Q3.out]
        go_wp2_with fail
        refine (mul_16 _ _ _ HA.out HB.out).mono ?_
        rintro e w' ⟨rfl, rfl⟩
        rw [HM.out]
        go_wp2_with fail
        refine (mul_16 _ _ _ RM.out HC.out).mono ?_
        rintro e w' ⟨rfl, rfl⟩
        rw [HM3.out]
        go_wp2_with fail
        refine (mul_16 _ _ _ HB.out HC.out).mono ?_
        rintro e w' ⟨rfl, rfl⟩
        rw [HV.out]
        go_wp2_with fail
        refine (mul_16 _ _ _ HA.out RV.out).mono ?_
        rintro e w' ⟨rfl, rfl⟩
        rw [Q4.out]
        go_wp2_with fail
        refine (add_14 _ _ _ HB.out HC.out).mono ?_
        rintro e W8 ⟨rfl, hb⟩
        have B8 := Lib.hid (below_then B7.out hb (Nat.le_refl _))
        clear hb
        rw [HU.out]
        go_wp2_with fail
        refine (mul_16 _ _ _ HA.out RU.out).mono ?_
        rintro e w' ⟨rfl, rfl⟩
        rw [HD.out]
        go_wp2_with fail
        refine (mul_16 _ _ _ HA.out HB.out).mono ?_
        rintro e w' ⟨rfl, rfl⟩
        rw [HM.out]
        go_wp2_with fail
        refine (mul_16 _ _ _ HA.out HC.out).mono ?_
        rintro e w' ⟨rfl, rfl⟩
        rw [HM'.out]
        go_wp2_with fail
        refine (add_14 _ _ _ RM.out RM'.out).mono ?_
        rintro e W9 ⟨rfl, hb⟩
        have B9 := Lib.hid (below_then B8.out hb (Nat.le_refl _))
        clear hb
        rw [Q5.out]
        go_wp2_with fail
        refine (add_14 _ _ _ HA.out (small _ (by decide))).mono ?_
        rintro e W10 ⟨rfl, hb⟩
        have B10 := Lib.hid (below_then B9.out hb (Nat.le_refl _))
        clear hb
        rw [Q6.out]
        go_wp2_with fail
        refine (mul_16 _ _ _ HA.out (small _ (by decide))).mono ?_
        rintro e w' ⟨rfl, rfl⟩
        rw [Q7.out]
        go_wp2_with fail
        refine (add_14 _ _ _ RX.out RNX.out).mono ?_
        rintro e W11 ⟨rfl, hb⟩
        have B11 := Lib.hid (below_then B10.out hb (Nat.le_refl _))
        clear hb
        rw [Q8.out]
        go_wp2_with fail
        refine (mul_16 _ _ _ HA.out HB.out).mono ?_
        rintro e w' ⟨rfl, rfl⟩
        rw [HM.out]
        go_wp2_with fail
        refine (inv_10 _ _ HA.out).mono ?_
        rintro e w' ⟨rfl, rfl⟩
        rw [HI.out, HE.out]
        go_wp2_with fail
        go_ret
        exact ⟨rfl, B11.out⟩
  · have QI := Lib.hid (Q12.out (by simpa using h21))
    have H23 := Lib.hid h23
    clear h23
    rcases H3.out with h3 | h3
    all_goals
      have h4 := H23.out
      rw [h3] at h4
      rcases h1 with h1 | h1
      · have hz0 := q10 h1
        have hz1 := q11 h1
        clear q10 q11 hsub
        go_enter Try.func5, Try.ntmps5
        go_wp2_with fail
        refine (sane_9 _).mono ?_
        rintro e W1 ⟨rfl, hb⟩
        have B1 := Lib.hid hb
        clear hb
        go_wp2_with fail
        refine (mod_12 _ _ HA.out).mono ?_
        rintro e w' ⟨rfl, rfl⟩
        rw [HX.out]
        go_wp2_with fail
        refine (mod_12 _ _ HB.out).mono ?_
        rintro e w' ⟨rfl, rfl⟩
        rw [HY.out]
        go_wp2_with fail
        refine (mod_12 _ _ HC.out).mono ?_
        rintro e w' ⟨rfl, rfl⟩
        rw [HZ.out]
        go_wp2_with fail
        refine (in_23 _ _ IX.out).mono ?_
        rintro e w' ⟨rfl, rfl⟩
        go_wp2_with fail
        refine (in_23 _ _ IY.out).mono ?_
        rintro e w' ⟨rfl, rfl⟩
        go_wp2_with fail
        refine (in_23 _ _ IZ.out).mono ?_
        rintro e w' ⟨rfl, rfl⟩
        go_wp2_with fail
        refine (mod_12 _ _ RX.out).mono ?_
        rintro e w' ⟨rfl, rfl⟩
        rw [Q0.out]
        go_wp2_with fail
        refine (add_14 _ _ _ HA.out HB.out).mono ?_
        rintro e W2 ⟨rfl, hb⟩
        have B2 := Lib.hid (below_then B1.out hb (Nat.le_refl _))
        clear hb
        rw [HS.out]
        go_wp2_with fail
        refine (add_14 _ _ _ RY.out RX.out).mono ?_
        rintro e W3 ⟨rfl, hb⟩
        have B3 := Lib.hid (below_then B2.out hb (Nat.le_refl _))
        clear hb
        rw [Q1.out]
        go_wp2_with fail
        refine (mul_16 _ _ _ HA.out HB.out).mono ?_
        rintro e w' ⟨rfl, rfl⟩
        rw [HM.out]
        go_wp2_with fail
        refine (mul_16 _ _ _ RY.out RX.out).mono ?_
        rintro e w' ⟨rfl, rfl⟩
        rw [Q2.out]
        go_wp2_with fail
        refine (add_14 _ _ _ HA.out HB.out).mono ?_
        rintro e W4 ⟨rfl, hb⟩
        have B4 := Lib.hid (below_then B3.out hb (Nat.le_refl _))
        clear hb
        rw [HS.out]
        go_wp2_with fail
        refine (add_14 _ _ _ RS.out HC.out).mono ?_
        rintro e W5 ⟨rfl, hb⟩
        have B5 := Lib.hid (below_then B4.out hb (Nat.le_refl _))
        clear hb
        rw [HS3.out]
        go_wp2_with fail
        refine (add_14 _ _ _ HB.out HC.out).mono ?_
        rintro e W6 ⟨rfl, hb⟩
        have B6 := Lib.hid (below_then B5.out hb (Nat.le_refl _))
        clear hb
        rw [HU.out]
        go_wp2_with fail
        refine (add_14 _ _ _ HA.out RU.out).mono ?_
        rintro e W7 ⟨rfl, hb⟩
        have B7 := Lib.hid (below_then B6.out hb (Nat.le_refl _))
        clear hb
        rw [Q3.out]
        go_wp2_with fail
        refine (mul_16 _ _ _ HA.out HB.out).mono ?_
        rintro e w' ⟨rfl, rfl⟩
        rw [HM.out]
        go_wp2_with fail
        refine (mul_16 _ _ _ RM.out HC.out).mono ?_
        rintro e w' ⟨rfl, rfl⟩
        rw [HM3.out]
        go_wp2_with fail
        refine (mul_16 _ _ _ HB.out HC.out).mono ?_
        rintro e w' ⟨rfl, rfl⟩
        rw [HV.out]
        go_wp2_with fail
        refine (mul_16 _ _ _ HA.out RV.out).mono ?_
        rintro e w' ⟨rfl, rfl⟩
        rw [Q4.out]
        go_wp2_with fail
        refine (add_14 _ _ _ HB.out HC.out).mono ?_
        rintro e W8 ⟨rfl, hb⟩
        have B8 := Lib.hid (below_then B7.out hb (Nat.le_refl _))
        clear hb
        rw [HU.out]
        go_wp2_with fail
        refine (mul_16 _ _ _ HA.out RU.out).mono ?_
        rintro e w' ⟨rfl, rfl⟩
        rw [HD.out]
        go_wp2_with fail
        refine (mul_16 _ _ _ HA.out HB.out).mono ?_
        rintro e w' ⟨rfl, rfl⟩
        rw [HM.out]
        go_wp2_with fail
        refine (mul_16 _ _ _ HA.out HC.out).mono ?_
        rintro e w' ⟨rfl, rfl⟩
        rw [HM'.out]
        go_wp2_with fail
        refine (add_14 _ _ _ RM.out RM'.out).mono ?_
        rintro e W9 ⟨rfl, hb⟩
        have B9 := Lib.hid (below_then B8.out hb (Nat.le_refl _))
        clear hb
        rw [Q5.out]
        go_wp2_with fail
        refine (add_14 _ _ _ HA.out (small _ (by decide))).mono ?_
        rintro e W10 ⟨rfl, hb⟩
        have B10 := Lib.hid (below_then B9.out hb (Nat.le_refl _))
        clear hb
        rw [Q6.out]
        go_wp2_with fail
        refine (mul_16 _ _ _ HA.out (small _ (by decide))).mono ?_
        rintro e w' ⟨rfl, rfl⟩
        rw [Q7.out]
        go_wp2_with fail
        refine (add_14 _ _ _ RX.out RNX.out).mono ?_
        rintro e W11 ⟨rfl, hb⟩
        have B11 := Lib.hid (below_then B10.out hb (Nat.le_refl _))
        clear hb
        rw [Q8.out]
        go_wp2_with fail
        refine (mul_16 _ _ _ HA.out HB.out).mono ?_
        rintro e w' ⟨rfl, rfl⟩
        rw [HM.out]
        go_wp2_with fail
        refine (inv_10 _ _ HA.out).mono ?_
        rintro e w' ⟨rfl, rfl⟩
        rw [HI.out, HE.out]
        go_wp2_with fail
        refine (in_23 _ _ II.out).mono ?_
        rintro e w' ⟨rfl, rfl⟩
        go_wp2_with fail
        refine (mul_16 _ _ _ HA.out RI.out).mono ?_
        rintro e w' ⟨rfl, rfl⟩
        rw [QI.out]
        go_wp2_with fail
        go_ret
        exact ⟨rfl, B11.out⟩
      · clear q10 q11
        obtain ⟨t, ht⟩ := hsub
        cases t
        all_goals
          go_enter Try.func5, Try.ntmps5
          go_wp2_with fail
          refine (sane_9 _).mono ?_
          rintro e W1 ⟨rfl, hb⟩
          have B1 := Lib.hid hb
          clear hb
          go_wp2_with fail
          refine (mod_12 _ _ HA.out).mono ?_
          rintro e w' ⟨rfl, rfl⟩
          rw [HX.out]
          go_wp2_with fail
          refine (mod_12 _ _ HB.out).mono ?_
          rintro e w' ⟨rfl, rfl⟩
          rw [HY.out]
          go_wp2_with fail
          refine (mod_12 _ _ HC.out).mono ?_
          rintro e w' ⟨rfl, rfl⟩
          rw [HZ.out]
          go_wp2_with fail
          refine (in_23 _ _ IX.out).mono ?_
          rintro e w' ⟨rfl, rfl⟩
          go_wp2_with fail
          refine (in_23 _ _ IY.out).mono ?_
          rintro e w' ⟨rfl, rfl⟩
          go_wp2_with fail
          refine (in_23 _ _ IZ.out).mono ?_
          rintro e w' ⟨rfl, rfl⟩
          go_wp2_with fail
          refine (mod_12 _ _ RX.out).mono ?_
          rintro e w' ⟨rfl, rfl⟩
          rw [Q0.out]
          go_wp2_with fail
          refine (add_14 _ _ _ HA.out HB.out).mono ?_
          rintro e W2 ⟨rfl, hb⟩
          have B2 := Lib.hid (below_then B1.out hb (Nat.le_refl _))
          clear hb
          rw [HS.out]
          go_wp2_with fail
          refine (add_14 _ _ _ RY.out RX.out).mono ?_
          rintro e W3 ⟨rfl, hb⟩
          have B3 := Lib.hid (below_then B2.out hb (Nat.le_refl _))
          clear hb
          rw [Q1.out]
          go_wp2_with fail
          refine (mul_16 _ _ _ HA.out HB.out).mono ?_
          rintro e w' ⟨rfl, rfl⟩
          rw [HM.out]
          go_wp2_with fail
          refine (mul_16 _ _ _ RY.out RX.out).mono ?_
          rintro e w' ⟨rfl, rfl⟩
          rw [Q2.out]
          go_wp2_with fail
          refine (add_14 _ _ _ HA.out HB.out).mono ?_
          rintro e W4 ⟨rfl, hb⟩
          have B4 := Lib.hid (below_then B3.out hb (Nat.le_refl _))
          clear hb
          rw [HS.out]
          go_wp2_with fail
          refine (add_14 _ _ _ RS.out HC.out).mono ?_
          rintro e W5 ⟨rfl, hb⟩
          have B5 := Lib.hid (below_then B4.out hb (Nat.le_refl _))
          clear hb
          rw [HS3.out]
          go_wp2_with fail
          refine (add_14 _ _ _ HB.out HC.out).mono ?_
          rintro e W6 ⟨rfl, hb⟩
          have B6 := Lib.hid (below_then B5.out hb (Nat.le_refl _))
          clear hb
          rw [HU.out]
          go_wp2_with fail
          refine (add_14 _ _ _ HA.out RU.out).mono ?_
          rintro e W7 ⟨rfl, hb⟩
          have B7 := Lib.hid (below_then B6.out hb (Nat.le_refl _))
          clear hb
          rw [Q3.out]
          go_wp2_with fail
          refine (mul_16 _ _ _ HA.out HB.out).mono ?_
          rintro e w' ⟨rfl, rfl⟩
          rw [HM.out]
          go_wp2_with fail
          refine (mul_16 _ _ _ RM.out HC.out).mono ?_
          rintro e w' ⟨rfl, rfl⟩
          rw [HM3.out]
          go_wp2_with fail
          refine (mul_16 _ _ _ HB.out HC.out).mono ?_
          rintro e w' ⟨rfl, rfl⟩
          rw [HV.out]
          go_wp2_with fail
          refine (mul_16 _ _ _ HA.out RV.out).mono ?_
          rintro e w' ⟨rfl, rfl⟩
          rw [Q4.out]
          go_wp2_with fail
          refine (add_14 _ _ _ HB.out HC.out).mono ?_
          rintro e W8 ⟨rfl, hb⟩
          have B8 := Lib.hid (below_then B7.out hb (Nat.le_refl _))
          clear hb
          rw [HU.out]
          go_wp2_with fail
          refine (mul_16 _ _ _ HA.out RU.out).mono ?_
          rintro e w' ⟨rfl, rfl⟩
          rw [HD.out]
          go_wp2_with fail
          refine (mul_16 _ _ _ HA.out HB.out).mono ?_
          rintro e w' ⟨rfl, rfl⟩
          rw [HM.out]
          go_wp2_with fail
          refine (mul_16 _ _ _ HA.out HC.out).mono ?_
          rintro e w' ⟨rfl, rfl⟩
          rw [HM'.out]
          go_wp2_with fail
          refine (add_14 _ _ _ RM.out RM'.out).mono ?_
          rintro e W9 ⟨rfl, hb⟩
          have B9 := Lib.hid (below_then B8.out hb (Nat.le_refl _))
          clear hb
          rw [Q5.out]
          go_wp2_with fail
          refine (add_14 _ _ _ HA.out (small _ (by decide))).mono ?_
          rintro e W10 ⟨rfl, hb⟩
          have B10 := Lib.hid (below_then B9.out hb (Nat.le_refl _))
          clear hb
          rw [Q6.out]
          go_wp2_with fail
          refine (mul_16 _ _ _ HA.out (small _ (by decide))).mono ?_
          rintro e w' ⟨rfl, rfl⟩
          rw [Q7.out]
          go_wp2_with fail
          refine (add_14 _ _ _ RX.out RNX.out).mono ?_
          rintro e W11 ⟨rfl, hb⟩
          have B11 := Lib.hid (below_then B10.out hb (Nat.le_refl _))
          clear hb
          rw [Q8.out]
          go_wp2_with fail
          refine (mul_16 _ _ _ HA.out HB.out).mono ?_
          rintro e w' ⟨rfl, rfl⟩
          rw [HM.out]
          go_wp2_with fail
          refine (inv_10 _ _ HA.out).mono ?_
          rintro e w' ⟨rfl, rfl⟩
          rw [HI.out, HE.out]
          go_wp2_with fail
          refine (in_23 _ _ II.out).mono ?_
          rintro e w' ⟨rfl, rfl⟩
          go_wp2_with fail
          refine (mul_16 _ _ _ HA.out RI.out).mono ?_
          rintro e w' ⟨rfl, rfl⟩
          rw [QI.out]
          go_wp2_with fail
          go_ret
          exact ⟨rfl, B11.out⟩

end Go.Proofs.Ytklngacahhlhmaa
