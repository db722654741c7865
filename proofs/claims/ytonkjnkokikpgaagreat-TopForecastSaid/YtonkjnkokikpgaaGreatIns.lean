/- Quotas: rotate and insertion sort keep a row of quotas. -/
import Derived.Test.YtonkjnkokikpgaaGreatQuo
import Derived.Test.YtonkjnkokikpgaaGreatRound
namespace Go.Proofs.YtonkjnkokikpgaaGreat
open Go.RowKit

theorem swap_109i (g m cap : Nat) (a b n : Int) (f : Value) (w : World) (hm : m ≤ 600) (h0 : 0 ≤ a) (hn : 0 < n) (ha : a + n ≤ b) (hb : b + n ≤ m) (hq : QB w g m) :
    Calls Tryz.prog 109 #[.slice (some ⟨g, 0, none⟩) m cap, .int .i64 a, .int .i64 b, .int .i64 n, f] w fun e w' => e = .returned (.tuple #[]) ∧ QB w' g m ∧ w.grownBy w' (some g) := by
  obtain ⟨a', rfl⟩ : ∃ k : Nat, a = k := ⟨a.toNat, by omega⟩
  obtain ⟨b', rfl⟩ : ∃ k : Nat, b = k := ⟨b.toNat, by omega⟩
  obtain ⟨n', rfl⟩ : ∃ k : Nat, n = k := ⟨n.toNat, by omega⟩
  exact swap_109 g m cap a' b' n' f w hm (by omega) (by omega) (by omega) hq

set_option maxRecDepth 100000 in
set_option maxHeartbeats 2000000 in
theorem rot_108 (g m cap : Nat) (a M b : Int) (f : Value) (w : World) (hm : m ≤ 600) (h0 : 0 ≤ a) (h1 : a < M) (h2 : M < b) (h3 : b ≤ m) (hq : QB w g m) :
    Calls Tryz.prog 108 #[.slice (some ⟨g, 0, none⟩) m cap, .int .i64 a, .int .i64 M, .int .i64 b, f] w fun e w' => e = .returned (.tuple #[]) ∧ QB w' g m ∧ w.grownBy w' (some g) := by
  have HQ := Lib.hid hq
  clear hq
  go_enter Tryz.func108, Tryz.ntmps108
  go_wp2_with fail
  go_loopw [10, 11] (fun s t wr => ∃ i j : Int, s = .int .i64 i ∧ t = .int .i64 j ∧ (1 ≤ i ∧ i ≤ M - a) ∧ (1 ≤ j ∧ j ≤ b - M) ∧ Hid (QB wr g m) ∧ Hid (w.grownBy wr (some g))) (fun s t _ => (intOf s + intOf t).toNat)
  case atStart => exact ⟨M - a, b - M, rfl, rfl, by omega, by omega, HQ, Lib.hid (Below.by_ (Below.refl _ _))⟩
  case round =>
    obtain ⟨i, j, rfl, rfl, ⟨i1, i2⟩, ⟨j1, j2⟩, HQ1, HG1⟩ := hrel
    by_cases hij : i = j
    · subst hij
      go_wp2_with fail
      refine (swap_109i g m cap _ _ _ f wr hm (by omega) (by omega) (by omega) (by omega) HQ1.out).mono ?_
      rintro e w2 ⟨rfl, hq2, hg2⟩
      have HQ2 := Lib.hid hq2
      have HG2 := Lib.hid (Lib.grownBy_trans HG1.out hg2)
      clear hq2 hg2
      go_wp2_with fail
      go_end0
      exact ⟨rfl, HQ2.out, HG2.out⟩
    have hd : (i != j) = true := by simpa using hij
    by_cases hgt : j < i
    · have hgd : decide (j < i) = true := by simpa using hgt
      go_wp2_with fail
      refine (swap_109i g m cap _ _ _ f wr hm (by omega) (by omega) (by omega) (by omega) HQ1.out).mono ?_
      rintro e w2 ⟨rfl, hq2, hg2⟩
      have HQ2 := Lib.hid hq2
      have HG2 := Lib.hid (Lib.grownBy_trans HG1.out hg2)
      clear hq2 hg2
      go_wp2_with fail
      go_roundw
      case rel => exact ⟨i - j, j, rfl, rfl, by omega, by omega, HQ2, HG2⟩
      case measure => simp [intOf]; omega
    · have hgd : decide (j < i) = false := by simpa using hgt
      go_wp2_with fail
      refine (swap_109i g m cap _ _ _ f wr hm (by omega) (by omega) (by omega) (by omega) HQ1.out).mono ?_
      rintro e w2 ⟨rfl, hq2, hg2⟩
      have HQ2 := Lib.hid hq2
      have HG2 := Lib.hid (Lib.grownBy_trans HG1.out hg2)
      clear hq2 hg2
      go_wp2_with fail
      go_roundw
      case rel => exact ⟨i, j - i, rfl, rfl, by omega, by omega, HQ2, HG2⟩
      case measure => simp [intOf]; omega

set_option maxRecDepth 100000 in
set_option maxHeartbeats 4000000 in
theorem ins_105 (g m cap : Nat) (a b : Int) (w : World) (hm : m ≤ 600) (h0 : 0 ≤ a) (h1 : a ≤ b) (h3 : b ≤ m) (hq : QB w g m) :
    Calls Tryz.prog 105 #[.slice (some ⟨g, 0, none⟩) m cap, .int .i64 a, .int .i64 b, .func (.func 76) #[] #[]] w fun e w' => e = .returned (.tuple #[]) ∧ QB w' g m ∧ w.grownBy w' (some g) := by
  have HQ := Lib.hid hq
  clear hq
  go_enter Tryz.func105, Tryz.ntmps105
  go_wp2_with fail
  go_loopw [8] (fun s wr => ∃ i : Int, s = .int .i64 i ∧ a + 1 ≤ i ∧ i ≤ m + 1 ∧ Hid (QB wr g m) ∧ Hid (w.grownBy wr (some g))) (fun s _ => (b - intOf s).toNat)
  case atStart => exact ⟨a + 1, rfl, by omega, by omega, HQ, Lib.hid (Below.by_ (Below.refl _ _))⟩
  case round =>
    obtain ⟨i, rfl, i1, i2, HQ1, HG1⟩ := hrel
    by_cases hlt : ¬ i < b
    · have hd : decide (i < b) = false := by simpa using hlt
      go_wp2_with fail
      go_end0
      exact ⟨rfl, HQ1.out, HG1.out⟩
    have hlt : i < b := by omega
    have hd : decide (i < b) = true := by simpa using hlt
    obtain ⟨I, hI⟩ : ∃ I : Nat, I = i.toNat := ⟨_, rfl⟩
    have hiI : i = (I : Int) := by omega
    subst hiI
    clear hI
    go_wp2_with fail
    go_loopw [9] (fun s wr => ∃ k : Nat, s = .int .i64 k ∧ a ≤ k ∧ k ≤ I ∧ Hid (QB wr g m) ∧ Hid (w.grownBy wr (some g))) (fun s _ => (intOf s).toNat)
    case atStart => exact ⟨I, rfl, by omega, Nat.le_refl _, HQ1, HG1⟩
    case round =>
      clear HQ1 HG1
      obtain ⟨k, rfl, k1, k2, HQ1, HG1⟩ := hrel
      by_cases hka : ¬ a < k
      · have hkd : decide (a < (k : Int)) = false := by simpa using hka
        go_upto_region 4 with fail
        go_region
        have HQ2 : Hid (QB wr.drew g m) := Lib.hid (HQ1.out.below (Below.refl _ _).drew HQ1.out.lt)
        have HG2 : Hid (w.grownBy wr.drew (some g)) := Lib.hid (Lib.grownBy_trans HG1.out (Below.by_ (Below.refl _ _).drew))
        generalize wr.drew = e2 at HQ2 HG2 ⊢
        go_wp2_with fail
        go_roundw
        case rel => exact ⟨_, rfl, by omega, by omega, HQ2, HG2⟩
        case measure => simp [intOf]; omega
      have hka : a < k := by omega
      obtain ⟨j, rfl⟩ : ∃ j, k = j + 1 := ⟨k - 1, by omega⟩
      have hjc : ((j + 1 : Nat) : Int) = (j : Int) + 1 := by omega
      rw [hjc] at hka k1 ⊢
      have hkd : decide (a < (j : Int) + 1) = true := by simpa using hka
      obtain ⟨x1, r1, hx1, hr1, p0, p1, p2, p3⟩ := HQ1.out.at_ (k := j + 1) (by omega)
      obtain ⟨x2, r2, hx2, hr2, q0, q1, q2, q3⟩ := HQ1.out.at_ (k := j) (by omega)
      have HR := Lib.hid (And.intro hr1 hr2)
      clear hr1 hr2
      have hjm : (j : Int) + 1 < (m : Int) := by omega
      have hjm' : (j : Int) < (m : Int) := by omega
      have hgl := HQ1.out.lt
      have hjn : ((j : Int) + 1 < 0) = False := eq_false (by omega)
      have hjn0 : (0 : Int) ≤ (j : Int) + 1 := by omega
      have hjn1 : ((j : Int) + 1).toNat = j + 1 := by omega
      have hwj : IntKind.i64.wrap (j : Int) = j := IntWalk.i64_in _ ⟨by omega, by omega⟩
      obtain ⟨d, hd'⟩ : ∃ d, d = cqF r1 r2 := ⟨_, rfl⟩
      have HCL : Hid (∀ W, Calls Tryz.prog 76 #[.agg #[.int .i64 x1, .int .u64 r1], .agg #[.int .i64 x2, .int .u64 r2]] W fun e w' => e = .returned (.int .i64 d) ∧ Below W.heap.size W w') := Lib.hid fun W => by
        rw [hd']
        exact clos_76 x1 x2 r1 r2 W
      clear hd'
      go_upto_region 4 with fail
      go_still_tail 14, (by kernel_rfl)
      change wpList _ _ _ _ _ wr.drew
      have HQ2 : Hid (QB wr.drew g m) := Lib.hid (HQ1.out.below (Below.refl _ _).drew hgl)
      have HG2 : Hid (w.grownBy wr.drew (some g)) := Lib.hid (Lib.grownBy_trans HG1.out (Below.by_ (Below.refl _ _).drew))
      clear HQ1 HG1 p0 p1 p2 p3 q0 q1 q2 q3 hgl
      generalize wr.drew = e2 at HQ2 HG2 ⊢
      go_wp2_with fail
      refine (HCL.out _).mono ?_
      rintro e e3 ⟨rfl, hb⟩
      have HQ3 : Hid (QB e3 g m) := Lib.hid (HQ2.out.below hb HQ2.out.lt)
      have HG3 : Hid (w.grownBy e3 (some g)) := Lib.hid (Lib.grownBy_trans HG2.out (Below.by_ hb))
      clear hb HQ2 HG2 HCL
      by_cases hdd : ¬ d < 0
      · have hddd : decide (d < 0) = false := by simpa using hdd
        go_wp2_with fail
        go_roundw
        case rel => exact ⟨_, rfl, by omega, by omega, HQ3, HG3⟩
        case measure => simp [intOf]; omega
      have hdd : d < 0 := by omega
      have hddd : decide (d < 0) = true := by simpa using hdd
      clear hdd
      obtain ⟨x1, r1, hx1, hr1, p0, p1, p2, p3⟩ := HQ3.out.at_ (k := j + 1) (by omega)
      obtain ⟨x2, r2, hx2, hr2, q0, q1, q2, q3⟩ := HQ3.out.at_ (k := j) (by omega)
      have HR := Lib.hid (And.intro hr1 hr2)
      clear hr1 hr2
      have d1 : (j + 1) * 2 ≠ j * 2 := by omega
      have d2 : (j + 1) * 2 ≠ j * 2 + 1 := by omega
      have d3 : (j + 1) * 2 + 1 ≠ j * 2 := by omega
      have d4 : (j + 1) * 2 + 1 ≠ j * 2 + 1 := by omega
      go_upto_region 6 with fail
      go_region
      obtain ⟨e4, he4⟩ : ∃ zz, zz = ((((e3.setCell ⟨g, (j + 1) * 2, none⟩ (.int .i64 x2)).setCell ⟨g, (j + 1) * 2 + 1, none⟩ (.int .u64 r2)).setCell ⟨g, j * 2, none⟩ (.int .i64 x1)).setCell ⟨g, j * 2 + 1, none⟩ (.int .u64 r1)).drew := ⟨_, rfl⟩
      have HQ4 : Hid (QB e4 g m) := Lib.hid (by rw [he4]; exact (HQ3.out.set_ (by omega) hx2 HR.out.2).set_ (k := j) (by omega) hx1 HR.out.1)
      have HG4 : Hid (w.grownBy e4 (some g)) := Lib.hid (by rw [he4]; exact Lib.grownBy_trans (Lib.grownBy_setB (Lib.grownBy_setB (Lib.grownBy_setB (Lib.grownBy_setB HG3.out _ _) _ _) _ _) _ _) (Below.by_ (Below.refl _ _).drew))
      rw [← he4]
      clear he4 HQ3 HG3 p0 p1 p2 p3 q0 q1 q2 q3
      go_wp2_with fail
      go_roundw
      case rel => exact ⟨j, by go_num, by omega, by omega, HQ4, HG4⟩
      case measure => simp [intOf]
end Go.Proofs.YtonkjnkokikpgaaGreat
