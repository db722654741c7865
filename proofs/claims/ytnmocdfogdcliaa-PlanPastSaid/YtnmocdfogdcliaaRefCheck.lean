/- Contracts of the reference's small functions and of its Check. -/
import Derived.Test.YtnmocdfogdcliaaBasic
namespace Go.Proofs.Ytnmocdfogdcliaa
open Go.RowKit

set_option maxRecDepth 100000 in
theorem within_36 (x l h : Int) (w : World) : Calls Try.prog 36 #[.int .i64 x, .int .i64 l, .int .i64 h] w fun e w' => e = .returned (.bool (ri3 l x h)) ∧ w = w' := by
  by_cases h1 : l ≤ x
  · by_cases h2 : x ≤ h
    · go_enter Try.func36, Try.ntmps36
      go_wp2_with fail
      go_ret
      exact ⟨ret_bool (by simp [ri3, h1, h2]), rfl⟩
    · have h2' : h < x := by omega
      go_enter Try.func36, Try.ntmps36
      go_wp2_with fail
      go_ret
      exact ⟨ret_bool (by simp [ri3]; omega), rfl⟩
  · have h1' : x < l := by omega
    go_enter Try.func36, Try.ntmps36
    go_wp2_with fail
    go_ret
    exact ⟨ret_bool (by simp [ri3]; omega), rfl⟩

set_option maxRecDepth 100000 in
theorem Has_25 (L H x : Int) (w : World) : Calls Try.prog 25 #[.agg #[.int .i64 L, .int .i64 H], .int .i64 x] w fun e w' => e = .returned (.bool (ri3 L x H)) ∧ Below w.heap.size w w' := by
  go_enter Try.func25, Try.ntmps25
  go_wp2_with fail
  refine (within_36 _ _ _ _).mono ?_
  rintro e w' ⟨rfl, rfl⟩
  go_wp2_with fail
  go_ret
  exact ⟨rfl, below_alloc _ _⟩

theorem ri4_parts (a b c d : Int) : ri4 a b c d = (ri3 a b c && decide (c ≤ d)) := rfl

set_option maxRecDepth 100000 in
set_option maxHeartbeats 8000000 in
theorem ref_Check_15 {PA : Option Addr} {n pc : Nat} {cp st fl : Int} {lo hi dm ou sp : Nat → Int} (B : Nat) (w : World) (hn : n ≤ 9223372036854775807) (hB : B ≤ w.heap.size) (hr : Rd w B PA (n * 5) (psc lo hi dm ou sp)) :
    Calls Try.prog 15 #[(.agg #[.int .i64 cp, .int .i64 st, .int .i64 fl, .slice PA n pc])] w fun e w' => e = .returned (.int .i64 (chkE cp st fl n lo hi dm ou sp)) ∧ Below w.heap.size w w' := by
  have HR := Lib.hid hr
  clear hr
  obtain ⟨w0, hw0⟩ : ∃ zz, zz = w.alloc (.cells #[.int .i64 cp, .int .i64 st, .int .i64 fl, .slice PA n pc] 26) := ⟨_, rfl⟩
  have HK0 : Hid (Blk w0 w.heap.size 26 #[.int .i64 cp, .int .i64 st, .int .i64 fl, .slice PA n pc]) := Lib.hid (hw0 ▸ Blk.new _ _ _)
  have HB0 : Hid (Below w.heap.size w w0) := Lib.hid (hw0 ▸ below_alloc _ _)
  have HW := Lib.hid hw0
  clear hw0
  have c0 : w0.cell? ⟨w.heap.size, 0, none⟩ = some (.int .i64 cp) := HK0.out.cell 0
  have c1 : w0.cell? ⟨w.heap.size, 1, none⟩ = some (.int .i64 st) := HK0.out.cell 1
  have c2 : w0.cell? ⟨w.heap.size, 2, none⟩ = some (.int .i64 fl) := HK0.out.cell 2
  have c3 : w0.cell? ⟨w.heap.size, 3, none⟩ = some (.slice PA n pc) := HK0.out.cell 3
  have HE2 : Hid (64 < n → (chkE cp st fl n lo hi dm ou sp) = 2) := Lib.hid fun h => by rw [chkE, if_pos h]
  have HE3 : Hid (¬ 64 < n → okT cp st fl = false → (chkE cp st fl n lo hi dm ou sp) = 390) := Lib.hid fun h h2 => by rw [chkE, if_neg h, h2]; rfl
  have HE4 : Hid (¬ 64 < n → ∀ k, k < n → okP lo hi dm ou sp k = false → (chkE cp st fl n lo hi dm ou sp) = 390) := Lib.hid fun h k hk h2 => by rw [chkE, if_neg h, okN_bad h2 n hk, Bool.and_false]; rfl
  have HE5 : Hid (¬ 64 < n → okT cp st fl = true → (∀ k, k < n → okP lo hi dm ou sp k = true) → (chkE cp st fl n lo hi dm ou sp) = 0) := Lib.hid fun h h2 h3 => by rw [chkE, if_neg h, h2, okN_of n h3]; rfl
  generalize (chkE cp st fl n lo hi dm ou sp) = E at HE2 HE3 HE4 HE5 ⊢
  go_enter Try.func15, Try.ntmps15
  go_upto_region 1 with fail
  rw [← HW.out]
  by_cases h64 : 64 < n
  · have h64' : (64 : Int) < n := by omega
    have HE := Lib.hid (HE2.out h64)
    go_wp2_with fail
    go_ret
    exact ⟨ret_int HE.out.symm, HB0.out⟩
  have h64' : (n : Int) ≤ 64 := by omega
  have HT3 := Lib.hid (HE3.out h64)
  have HP4 := Lib.hid (HE4.out h64)
  have HOK := Lib.hid (HE5.out h64)
  clear HE2 HE3 HE4 HE5 h64
  have HT : Hid (okT cp st fl = ((ri3 0 st cp && decide (cp ≤ 1099511627776)) && ri3 0 fl cp)) := Lib.hid rfl
  go_wp2_with fail
  refine (within_36 _ _ _ _).mono ?_
  rintro e w' ⟨rfl, rfl⟩
  cases h1 : ri3 0 st cp
  · have HE := Lib.hid (HT3.out (by rw [HT.out, h1]; rfl))
    go_wp2_with fail
    go_ret
    exact ⟨ret_int HE.out.symm, HB0.out⟩
  by_cases h2 : 1099511627776 < cp
  · have h2f : decide (cp ≤ 1099511627776) = false := by simp; omega
    have HE := Lib.hid (HT3.out (by rw [HT.out, h2f, Bool.and_false]; rfl))
    clear h2f
    go_wp2_with fail
    go_ret
    exact ⟨ret_int HE.out.symm, HB0.out⟩
  have h2t : decide (cp ≤ 1099511627776) = true := by simp; omega
  have HT2 : Hid (okT cp st fl = ri3 0 fl cp) := Lib.hid (by rw [HT.out, h1, h2t]; rfl)
  have h2f : decide (1099511627776 < cp) = false := by simp; omega
  clear h2t h1 h2
  go_wp2_with fail
  refine (within_36 _ _ _ _).mono ?_
  rintro e w' ⟨rfl, rfl⟩
  cases h3 : ri3 0 fl cp
  · have HE := Lib.hid (HT3.out (by rw [HT2.out, h3]))
    go_wp2_with fail
    go_ret
    exact ⟨ret_int HE.out.symm, HB0.out⟩
  have HTT := Lib.hid (HT2.out.trans h3)
  clear h3 c0 c1 c2 h2f
  go_wp2_with fail
  clear c3
  go_loopw [3] (fun i wr => ∃ k : Nat, k ≤ n ∧ i = .int .i64 k ∧ Hid (∀ j, j < k → okP lo hi dm ou sp j = true) ∧ Below w0.heap.size w0 wr) (fun i _ => n - (intOf i).toNat)
  case atStart => exact ⟨0, Nat.zero_le _, rfl, Lib.hid fun j hj => by omega, Below.refl _ _⟩
  case round =>
    obtain ⟨k, hk, rfl, HKK, hb⟩ := hrel
    have HBL := Lib.hid hb
    have HB2 := Lib.hid (HB0.out.trans (hb.mono HB0.out.size))
    have HK2 := Lib.hid (HK0.out.below hb HK0.out.lt)
    have hz2 := hb.size
    clear hb
    have c3 : wr.cell? ⟨w.heap.size, 2 + 1, none⟩ = some (.slice PA n pc) := HK2.out.cell 3
    by_cases hlt : k < n
    · have hlt' : (k : Int) < n := by omega
      obtain ⟨b, o, e, _, p0, p1, p2, p3, p4⟩ := per_at (HR.out.below (HB2.out.mono hB)) hlt
      subst e
      have HP : Hid (okP lo hi dm ou sp k = (((ri3 0 (lo k) (hi k) && decide (hi k ≤ 1099511627776)) && (ri3 0 (dm k) (ou k) && decide (ou k ≤ 1099511627776))) && ri3 0 (sp k) 1099511627776)) := Lib.hid rfl
      have HBAD := Lib.hid (HP4.out k hlt)
      have HGO : Hid (okP lo hi dm ou sp k = true → ∀ j, j < k + 1 → okP lo hi dm ou sp j = true) := Lib.hid fun h j hj => by
        by_cases e : j = k
        · subst e; exact h
        · exact HKK.out j (by omega)
      generalize okP lo hi dm ou sp k = ok at HP HBAD HGO
      generalize lo k = x0 at *
      generalize hi k = x1 at *
      generalize dm k = x2 at *
      generalize ou k = x3 at *
      generalize sp k = x4 at *
      go_upto_region 9 with fail
      obtain ⟨v1, hv1⟩ : ∃ zz, zz = wr.alloc (.cells #[.int .i64 x0, .int .i64 x1, .int .i64 x2, .int .i64 x3, .int .i64 x4] 50) := ⟨_, rfl⟩
      have HX1 : Hid (Blk v1 wr.heap.size 50 #[.int .i64 x0, .int .i64 x1, .int .i64 x2, .int .i64 x3, .int .i64 x4]) := Lib.hid (hv1 ▸ Blk.new _ _ _)
      have HL1 : Hid (Below w0.heap.size w0 v1) := Lib.hid (hv1 ▸ HBL.out.alloc hz2 _)
      have HB3 : Hid (Below w.heap.size w v1) := Lib.hid (HB0.out.trans (HL1.out.mono HB0.out.size))
      rw [← hv1]
      clear hv1 p0 p1 p2 p3 p4 HBL HB2 c3
      have q0 : v1.cell? ⟨wr.heap.size, 0, none⟩ = some (.int .i64 x0) := HX1.out.cell 0
      have q1 : v1.cell? ⟨wr.heap.size, 1, none⟩ = some (.int .i64 x1) := HX1.out.cell 1
      have q2 : v1.cell? ⟨wr.heap.size, 2, none⟩ = some (.int .i64 x2) := HX1.out.cell 2
      have q3 : v1.cell? ⟨wr.heap.size, 3, none⟩ = some (.int .i64 x3) := HX1.out.cell 3
      have q4 : v1.cell? ⟨wr.heap.size, 4, none⟩ = some (.int .i64 x4) := HX1.out.cell 4
      go_wp2_with fail
      refine (within_36 _ _ _ _).mono ?_
      rintro e w' ⟨rfl, rfl⟩
      cases h1 : ri3 0 x0 x1
      · have HE := Lib.hid (HBAD.out (by rw [HP.out, h1]; rfl))
        go_wp2_with fail
        go_ret
        exact ⟨ret_int HE.out.symm, HB3.out⟩
      by_cases h2 : 1099511627776 < x1
      · have h2f : decide (x1 ≤ 1099511627776) = false := by simp; omega
        have HE := Lib.hid (HBAD.out (by rw [HP.out, h2f, Bool.and_false]; rfl))
        clear h2f
        go_wp2_with fail
        go_ret
        exact ⟨ret_int HE.out.symm, HB3.out⟩
      have h2t : decide (x1 ≤ 1099511627776) = true := by simp; omega
      have HP2 : Hid (ok = ((ri3 0 x2 x3 && decide (x3 ≤ 1099511627776)) && ri3 0 x4 1099511627776)) := Lib.hid (by rw [HP.out, h1, h2t]; rfl)
      have h2f : decide (1099511627776 < x1) = false := by simp; omega
      clear h2t h1 h2
      go_wp2_with fail
      refine (within_36 _ _ _ _).mono ?_
      rintro e w' ⟨rfl, rfl⟩
      cases h3 : ri3 0 x2 x3
      · have HE := Lib.hid (HBAD.out (by rw [HP2.out, h3]; rfl))
        go_wp2_with fail
        go_ret
        exact ⟨ret_int HE.out.symm, HB3.out⟩
      by_cases h4 : 1099511627776 < x3
      · have h4f : decide (x3 ≤ 1099511627776) = false := by simp; omega
        have HE := Lib.hid (HBAD.out (by rw [HP2.out, h4f, Bool.and_false]; rfl))
        clear h4f
        go_wp2_with fail
        go_ret
        exact ⟨ret_int HE.out.symm, HB3.out⟩
      have h4t : decide (x3 ≤ 1099511627776) = true := by simp; omega
      have HP3 : Hid (ok = ri3 0 x4 1099511627776) := Lib.hid (by rw [HP2.out, h3, h4t]; rfl)
      have h4f : decide (1099511627776 < x3) = false := by simp; omega
      clear h4t h3 h4
      go_wp2_with fail
      refine (within_36 _ _ _ _).mono ?_
      rintro e w' ⟨rfl, rfl⟩
      cases h5 : ri3 0 x4 1099511627776
      · have HE := Lib.hid (HBAD.out (by rw [HP3.out, h5]))
        go_wp2_with fail
        go_ret
        exact ⟨ret_int HE.out.symm, HB3.out⟩
      have HV := Lib.hid (HGO.out (by rw [HP3.out, h5]))
      go_wp2_with fail
      go_roundw
      case rel => exact ⟨k + 1, by omega, by go_num, HV, HL1.out⟩
      case measure => simp [intOf]; omega
    · obtain rfl : k = n := by omega
      have HE := Lib.hid (HOK.out HTT.out HKK.out)
      go_wp2_with fail
      go_ret
      exact ⟨ret_int HE.out.symm, HB2.out⟩
end Go.Proofs.Ytnmocdfogdcliaa
