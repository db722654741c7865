/- Quotas: symMerge keeps a row of quotas: the two short ways. Quotas: symMerge keeps a row of quotas: the second short way. Quotas: symMerge keeps a row of quotas. Quotas: SortStableFunc keeps a row of quotas. -/
import Derived.Test.YtonkjnkokikpgaaGreatIns
import Derived.Sort.Walk0
import Derived.Shelf.Abstract
namespace Go.Proofs.YtonkjnkokikpgaaGreat
open Go.RowKit

/-- what the kept functions say -/
def Kept (g m : Nat) (w : World) (e : Ending) (w' : World) : Prop := e = .returned (.tuple #[]) ∧ QB w' g m ∧ w.grownBy w' (some g)

set_option maxRecDepth 100000 in
set_option maxHeartbeats 4000000 in
theorem sym_1 (g m cap A M E : Nat) (hm : m ≤ 600) (w : World) (h2 : M < E) (h3 : E ≤ m) (hA : (M : Int) - A = 1) (hq : QB w g m) :
    Calls Tryz.prog 106 #[.slice (some ⟨g, 0, none⟩) m cap, .int .i64 A, .int .i64 M, .int .i64 E, .func (.func 76) #[] #[]] w fun e w' => Kept g m w e w' := by
    have HQ1 := Lib.hid hq
    have HG1 : Hid (w.grownBy w (some g)) := Lib.hid (Below.by_ (Below.refl _ _))
    clear hq
    have c1 : (A : Int) < (m : Int) := by omega
    have c2 : (M : Int) < (m : Int) := by omega
    go_enter Tryz.func106, Tryz.ntmps106
    have hAd : ((M : Int) - A == 1) = true := by simpa using hA
    go_wp2_with fail
    go_loopw [10, 11] (fun s t wr => ∃ i j : Nat, s = .int .i64 i ∧ t = .int .i64 j ∧ M ≤ i ∧ i ≤ j ∧ j ≤ E ∧ Hid (QB wr g m) ∧ Hid (w.grownBy wr (some g))) (fun s t _ => (intOf t - intOf s).toNat)
    case atStart => exact ⟨M, E, rfl, rfl, Nat.le_refl _, by omega, Nat.le_refl _, HQ1, HG1⟩
    case round =>
      clear HQ1 HG1
      obtain ⟨i, j, rfl, rfl, i1, ij, j1, HQ1, HG1⟩ := hrel
      by_cases hlt : i < j
      · have hlt' : (i : Int) < (j : Int) := by omega
        have e1 : (((i : Int) + (j : Int)) / 2 < 0) = False := eq_false (by omega)
        have e2 : ((i : Int) + (j : Int)) / 2 < (m : Int) := by omega
        have e3 : (((i : Int) + (j : Int)) / 2).toNat = (i + j) / 2 := by omega
        have e4 : (0 : Int) ≤ ((i : Int) + (j : Int)) / 2 := by omega

        obtain ⟨x1, r1, hx1, hr1, p0, p1, p2, p3⟩ := HQ1.out.at_ (k := (i + j) / 2) (by omega)
        obtain ⟨x2, r2, hx2, hr2, q0, q1, q2, q3⟩ := HQ1.out.at_ (k := A) (by omega)
        obtain ⟨d, hd'⟩ : ∃ d, d = cqF r1 r2 := ⟨_, rfl⟩
        have HCL : Hid (∀ W, Calls Tryz.prog 76 #[.agg #[.int .i64 x1, .int .u64 r1], .agg #[.int .i64 x2, .int .u64 r2]] W fun e w' => e = .returned (.int .i64 d) ∧ Below W.heap.size W w') := Lib.hid fun W => by
          rw [hd']
          exact clos_76 x1 x2 r1 r2 W
        clear hd' hr1 hr2 hx1 hx2
        go_upto_region 5 with fail
        go_still_tail 9, (by kernel_rfl)
        change wpList _ _ _ _ _ wr.drew
        have HQ2 : Hid (QB wr.drew g m) := Lib.hid (HQ1.out.below (Below.refl _ _).drew HQ1.out.lt)
        have HG2 : Hid (w.grownBy wr.drew (some g)) := Lib.hid (Lib.grownBy_trans HG1.out (Below.by_ (Below.refl _ _).drew))
        clear HQ1 HG1 p0 p1 p2 p3 q0 q1 q2 q3
        generalize wr.drew = e2' at HQ2 HG2 ⊢
        go_wp2_with fail
        refine (HCL.out _).mono ?_
        rintro e e3' ⟨rfl, hb⟩
        have HQ3 : Hid (QB e3' g m) := Lib.hid (HQ2.out.below hb HQ2.out.lt)
        have HG3 : Hid (w.grownBy e3' (some g)) := Lib.hid (Lib.grownBy_trans HG2.out (Below.by_ hb))
        clear hb HQ2 HG2 HCL
        by_cases hdd : d < 0
        · have hddd : decide (d < 0) = true := by simpa using hdd
          clear hdd
          go_wp2_with fail
          go_roundw
          case rel => exact ⟨(i + j) / 2 + 1, j, by rw [show ((i : Int) + (j : Int)) / 2 + 1 = (((i + j) / 2 + 1 : Nat) : Int) by omega], rfl, by omega, by omega, by omega, HQ3, HG3⟩
          case measure => simp [intOf]; omega
        · have hddd : decide (d < 0) = false := by simpa using hdd
          clear hdd
          go_wp2_with fail
          go_roundw
          case rel => exact ⟨i, (i + j) / 2, rfl, by rw [show ((i : Int) + (j : Int)) / 2 = (((i + j) / 2 : Nat) : Int) by omega], by omega, by omega, by omega, HQ3, HG3⟩
          case measure => simp [intOf]; omega
      have hlt' : ¬ (i : Int) < (j : Int) := by omega
      obtain rfl : i = j := by omega
      go_wp2_with fail
      go_loopw [13] (fun s wr => ∃ k : Nat, s = .int .i64 k ∧ A ≤ k ∧ k ≤ E ∧ Hid (QB wr g m) ∧ Hid (w.grownBy wr (some g))) (fun s _ => ((i : Int) - intOf s).toNat)
      case atStart => exact ⟨A, rfl, Nat.le_refl _, by omega, HQ1, HG1⟩
      case round =>
        clear HQ1 HG1
        obtain ⟨k, rfl, k1, k2, HQ1, HG1⟩ := hrel
        by_cases hk : ¬ (k : Int) < (i : Int) - 1
        · have hkd : decide ((k : Int) < (i : Int) - 1) = false := by simpa using hk
          go_wp2_with fail
          go_end0
          exact ⟨rfl, HQ1.out, HG1.out⟩
        have hk : (k : Int) < (i : Int) - 1 := by omega
        have hkd : decide ((k : Int) < (i : Int) - 1) = true := by simpa using hk
        have f1 : (k : Int) + 1 < (m : Int) := by omega
        have f2 : (k : Int) < (m : Int) := by omega
        obtain ⟨x1, r1, hx1, hr1, p0, p1, p2, p3⟩ := HQ1.out.at_ (k := k) (by omega)
        obtain ⟨x2, r2, hx2, hr2, q0, q1, q2, q3⟩ := HQ1.out.at_ (k := k + 1) (by omega)
        have HR := Lib.hid (And.intro hr1 hr2)
        clear hr1 hr2
        have d1 : (k) * 2 ≠ (k + 1) * 2 := by omega
        have d2 : (k) * 2 ≠ (k + 1) * 2 + 1 := by omega
        have d3 : (k) * 2 + 1 ≠ (k + 1) * 2 := by omega
        have d4 : (k) * 2 + 1 ≠ (k + 1) * 2 + 1 := by omega
        go_upto_region 11 with fail
        go_region
        obtain ⟨e4, he4⟩ : ∃ zz, zz = ((((wr.setCell ⟨g, (k) * 2, none⟩ (.int .i64 x2)).setCell ⟨g, (k) * 2 + 1, none⟩ (.int .u64 r2)).setCell ⟨g, (k + 1) * 2, none⟩ (.int .i64 x1)).setCell ⟨g, (k + 1) * 2 + 1, none⟩ (.int .u64 r1)).drew := ⟨_, rfl⟩
        have HQ4 : Hid (QB e4 g m) := Lib.hid (by rw [he4]; exact (HQ1.out.set_ (by omega) hx2 HR.out.2).set_ (k := k + 1) (by omega) hx1 HR.out.1)
        have HG4 : Hid (w.grownBy e4 (some g)) := Lib.hid (by rw [he4]; exact Lib.grownBy_trans (Lib.grownBy_setB (Lib.grownBy_setB (Lib.grownBy_setB (Lib.grownBy_setB HG1.out _ _) _ _) _ _) _ _) (Below.by_ (Below.refl _ _).drew))
        rw [← he4]
        clear he4 HQ1 HG1 p0 p1 p2 p3 q0 q1 q2 q3 d1 d2 d3 d4
        go_wp2_with fail
        go_roundw
        case rel => exact ⟨k + 1, by go_num, by omega, by omega, HQ4, HG4⟩
        case measure => simp [intOf]; omega
end Go.Proofs.YtonkjnkokikpgaaGreat
namespace Go.Proofs.YtonkjnkokikpgaaGreat
open Go.RowKit


set_option maxRecDepth 100000 in
set_option maxHeartbeats 4000000 in
theorem sym_2 (g m cap A M E : Nat) (hm : m ≤ 600) (w : World) (h1 : A < M) (h3 : E ≤ m) (hA : ¬ (M : Int) - A = 1) (hB : (E : Int) - M = 1) (hq : QB w g m) :
    Calls Tryz.prog 106 #[.slice (some ⟨g, 0, none⟩) m cap, .int .i64 A, .int .i64 M, .int .i64 E, .func (.func 76) #[] #[]] w fun e w' => Kept g m w e w' := by
    have HQ1 := Lib.hid hq
    have HG1 : Hid (w.grownBy w (some g)) := Lib.hid (Below.by_ (Below.refl _ _))
    clear hq
    have c1 : (A : Int) < (m : Int) := by omega
    have c2 : (M : Int) < (m : Int) := by omega
    go_enter Tryz.func106, Tryz.ntmps106
    have hAd : ((M : Int) - A == 1) = false := by simpa using hA
    have hBd : ((E : Int) - M == 1) = true := by simpa using hB
    go_wp2_with fail
    go_loopw [14, 15] (fun s t wr => ∃ i j : Nat, s = .int .i64 i ∧ t = .int .i64 j ∧ A ≤ i ∧ i ≤ j ∧ j ≤ M ∧ Hid (QB wr g m) ∧ Hid (w.grownBy wr (some g))) (fun s t _ => (intOf t - intOf s).toNat)
    case atStart => exact ⟨A, M, rfl, rfl, Nat.le_refl _, by omega, Nat.le_refl _, HQ1, HG1⟩
    case round =>
      clear HQ1 HG1
      obtain ⟨i, j, rfl, rfl, i1, ij, j1, HQ1, HG1⟩ := hrel
      by_cases hlt : i < j
      · have hlt' : (i : Int) < (j : Int) := by omega
        have e1 : (((i : Int) + (j : Int)) / 2 < 0) = False := eq_false (by omega)
        have e2 : ((i : Int) + (j : Int)) / 2 < (m : Int) := by omega
        have e3 : (((i : Int) + (j : Int)) / 2).toNat = (i + j) / 2 := by omega
        have e4 : (0 : Int) ≤ ((i : Int) + (j : Int)) / 2 := by omega

        obtain ⟨x1, r1, hx1, hr1, p0, p1, p2, p3⟩ := HQ1.out.at_ (k := M) (by omega)
        obtain ⟨x2, r2, hx2, hr2, q0, q1, q2, q3⟩ := HQ1.out.at_ (k := (i + j) / 2) (by omega)
        obtain ⟨d, hd'⟩ : ∃ d, d = cqF r1 r2 := ⟨_, rfl⟩
        have HCL : Hid (∀ W, Calls Tryz.prog 76 #[.agg #[.int .i64 x1, .int .u64 r1], .agg #[.int .i64 x2, .int .u64 r2]] W fun e w' => e = .returned (.int .i64 d) ∧ Below W.heap.size W w') := Lib.hid fun W => by
          rw [hd']
          exact clos_76 x1 x2 r1 r2 W
        clear hd' hr1 hr2 hx1 hx2
        go_upto_region 17 with fail
        go_still_tail 9, (by kernel_rfl)
        change wpList _ _ _ _ _ wr.drew
        have HQ2 : Hid (QB wr.drew g m) := Lib.hid (HQ1.out.below (Below.refl _ _).drew HQ1.out.lt)
        have HG2 : Hid (w.grownBy wr.drew (some g)) := Lib.hid (Lib.grownBy_trans HG1.out (Below.by_ (Below.refl _ _).drew))
        clear HQ1 HG1 p0 p1 p2 p3 q0 q1 q2 q3
        generalize wr.drew = e2' at HQ2 HG2 ⊢
        go_wp2_with fail
        refine (HCL.out _).mono ?_
        rintro e e3' ⟨rfl, hb⟩
        have HQ3 : Hid (QB e3' g m) := Lib.hid (HQ2.out.below hb HQ2.out.lt)
        have HG3 : Hid (w.grownBy e3' (some g)) := Lib.hid (Lib.grownBy_trans HG2.out (Below.by_ hb))
        clear hb HQ2 HG2 HCL
        by_cases hdd : d < 0
        · have hddd : decide (d < 0) = true := by simpa using hdd
          clear hdd
          go_wp2_with fail
          go_roundw
          case rel => exact ⟨i, (i + j) / 2, rfl, by rw [show ((i : Int) + (j : Int)) / 2 = (((i + j) / 2 : Nat) : Int) by omega], by omega, by omega, by omega, HQ3, HG3⟩
          case measure => simp [intOf]; omega
        · have hddd : decide (d < 0) = false := by simpa using hdd
          clear hdd
          go_wp2_with fail
          go_roundw
          case rel => exact ⟨(i + j) / 2 + 1, j, by rw [show ((i : Int) + (j : Int)) / 2 + 1 = (((i + j) / 2 + 1 : Nat) : Int) by omega], rfl, by omega, by omega, by omega, HQ3, HG3⟩
          case measure => simp [intOf]; omega
      have hlt' : ¬ (i : Int) < (j : Int) := by omega
      obtain rfl : i = j := by omega
      go_wp2_with fail
      go_loopw [17] (fun s wr => ∃ k : Nat, s = .int .i64 k ∧ i ≤ k ∧ k ≤ M ∧ Hid (QB wr g m) ∧ Hid (w.grownBy wr (some g))) (fun s _ => (intOf s).toNat)
      case atStart => exact ⟨M, rfl, by omega, Nat.le_refl _, HQ1, HG1⟩
      case round =>
        clear HQ1 HG1
        obtain ⟨k, rfl, k1, k2, HQ1, HG1⟩ := hrel
        by_cases hk : ¬ i < k
        · have hkd : decide ((i : Int) < (k : Int)) = false := by simpa using hk
          go_wp2_with fail
          go_end0
          exact ⟨rfl, HQ1.out, HG1.out⟩
        have hk : i < k := by omega
        obtain ⟨q, rfl⟩ : ∃ q, k = q + 1 := ⟨k - 1, by omega⟩
        have hqc : ((q + 1 : Nat) : Int) = (q : Int) + 1 := by omega
        rw [hqc]
        have hkd : decide ((i : Int) < (q : Int) + 1) = true := by simp; omega
        have f1 : (q : Int) + 1 < (m : Int) := by omega
        have f2 : (q : Int) < (m : Int) := by omega
        have f3 : IntKind.i64.wrap (q : Int) = q := IntWalk.i64_in _ ⟨by omega, by omega⟩
        obtain ⟨x1, r1, hx1, hr1, p0, p1, p2, p3⟩ := HQ1.out.at_ (k := q + 1) (by omega)
        obtain ⟨x2, r2, hx2, hr2, q0, q1, q2, q3⟩ := HQ1.out.at_ (k := q) (by omega)
        have HR := Lib.hid (And.intro hr1 hr2)
        clear hr1 hr2
        have d1 : (q + 1) * 2 ≠ (q) * 2 := by omega
        have d2 : (q + 1) * 2 ≠ (q) * 2 + 1 := by omega
        have d3 : (q + 1) * 2 + 1 ≠ (q) * 2 := by omega
        have d4 : (q + 1) * 2 + 1 ≠ (q) * 2 + 1 := by omega
        go_upto_region 23 with fail
        go_region
        obtain ⟨e4, he4⟩ : ∃ zz, zz = ((((wr.setCell ⟨g, (q + 1) * 2, none⟩ (.int .i64 x2)).setCell ⟨g, (q + 1) * 2 + 1, none⟩ (.int .u64 r2)).setCell ⟨g, (q) * 2, none⟩ (.int .i64 x1)).setCell ⟨g, (q) * 2 + 1, none⟩ (.int .u64 r1)).drew := ⟨_, rfl⟩
        have HQ4 : Hid (QB e4 g m) := Lib.hid (by rw [he4]; exact (HQ1.out.set_ (by omega) hx2 HR.out.2).set_ (k := q) (by omega) hx1 HR.out.1)
        have HG4 : Hid (w.grownBy e4 (some g)) := Lib.hid (by rw [he4]; exact Lib.grownBy_trans (Lib.grownBy_setB (Lib.grownBy_setB (Lib.grownBy_setB (Lib.grownBy_setB HG1.out _ _) _ _) _ _) _ _) (Below.by_ (Below.refl _ _).drew))
        rw [← he4]
        clear he4 HQ1 HG1 p0 p1 p2 p3 q0 q1 q2 q3 d1 d2 d3 d4
        go_wp2_with fail
        go_roundw
        case rel => exact ⟨q, by go_num, by omega, by omega, HQ4, HG4⟩
        case measure => simp [intOf]
end Go.Proofs.YtonkjnkokikpgaaGreat
namespace Go.Proofs.YtonkjnkokikpgaaGreat
open Go.RowKit

set_option maxRecDepth 100000 in
set_option maxHeartbeats 4000000 in
theorem sym_3 (g m cap A M E : Nat) (hm : m ≤ 600) (w : World) (hA : ¬ (M : Int) - A = 1) (hB : ¬ (E : Int) - M = 1) (h1 : A < M) (h2 : M < E) (h3 : E ≤ m) (hq : QB w g m)
    (ih : ∀ (a M b : Int) (w : World), b - a < E - A → 0 ≤ a → a < M → M < b → b ≤ m → QB w g m → Calls Tryz.prog 106 #[.slice (some ⟨g, 0, none⟩) m cap, .int .i64 a, .int .i64 M, .int .i64 b, .func (.func 76) #[] #[]] w fun e w' => Kept g m w e w') :
    Calls Tryz.prog 106 #[.slice (some ⟨g, 0, none⟩) m cap, .int .i64 A, .int .i64 M, .int .i64 E, .func (.func 76) #[] #[]] w fun e w' => Kept g m w e w' := by
  have IH := Lib.hid ih
  have HQ1 := Lib.hid hq
  have HG1 : Hid (w.grownBy w (some g)) := Lib.hid (Below.by_ (Below.refl _ _))
  clear hq ih
  have hAd : ((M : Int) - A == 1) = false := by simpa using hA
  have hBd : ((E : Int) - M == 1) = false := by simpa using hB
  obtain ⟨D, hD⟩ : ∃ D : Nat, D = (A + E) / 2 := ⟨_, rfl⟩
  have hDv : ((A : Int) + (E : Int)) / 2 = (D : Int) := by omega
  have hDA : A < D := by omega
  have hDE : D < E := by omega
  have hDE2 : A + E ≤ 2 * D + 1 ∧ 2 * D ≤ A + E := by omega
  clear hD
  go_enter Tryz.func106, Tryz.ntmps106
  go_upto_if 140 with fail
  go_cut [20, 21] from 143 to 146 (fun s t wc => ∃ s0 r0 : Nat, s = .int .i64 s0 ∧ t = .int .i64 r0 ∧ (A ≤ s0 ∧ s0 ≤ r0 ∧ r0 ≤ D ∧ r0 ≤ M ∧ D + M ≤ E + s0) ∧ wc = w)
  case first =>
    by_cases hMD : D < M
    · have hMd : decide ((D : Int) < (M : Int)) = true := by simp; omega
      go_wp2_with fail
      go_meet
      case rel => exact ⟨D + M - E, D, by rw [show (D : Int) + (M : Int) - (E : Int) = ((D + M - E : Nat) : Int) by omega], rfl, by omega, rfl⟩
    · have hMd : decide ((D : Int) < (M : Int)) = false := by simp; omega
      go_wp2_with fail
      go_meet
      case rel => exact ⟨A, M, rfl, rfl, by omega, rfl⟩
  case rest =>
    obtain ⟨s0, r0, rfl, rfl, hsr, rfl⟩ := hcut
    obtain ⟨wx, hyy⟩ : ∃ y, y = wc := ⟨_, rfl⟩
    subst hyy
    obtain ⟨PP, hPP⟩ : ∃ PP : Nat, PP = D + M - 1 := ⟨_, rfl⟩
    have hpv : (D : Int) + (M : Int) - 1 = (PP : Int) := by omega
    have hPb : PP + 1 ≤ D + M ∧ D + M ≤ PP + 1 := by omega
    clear hPP
    go_wp2_with fail
    go_loopw [20, 21] (fun s t wr => ∃ i j : Nat, s = .int .i64 i ∧ t = .int .i64 j ∧ s0 ≤ i ∧ i ≤ j ∧ j ≤ r0 ∧ Hid (QB wr g m) ∧ Hid (wx.grownBy wr (some g))) (fun s t _ => (intOf t - intOf s).toNat)
    case atStart => exact ⟨s0, r0, rfl, rfl, Nat.le_refl _, by omega, Nat.le_refl _, HQ1, HG1⟩
    case round =>
      clear HQ1 HG1
      obtain ⟨i, j, rfl, rfl, i1, ij, j1, HQ1, HG1⟩ := hrel
      by_cases hlt : i < j
      · have hlt' : (i : Int) < (j : Int) := by omega
        have e1 : (((i : Int) + (j : Int)) / 2 < 0) = False := eq_false (by omega)
        have e2 : ((i : Int) + (j : Int)) / 2 < (m : Int) := by omega
        have e3 : (((i : Int) + (j : Int)) / 2).toNat = (i + j) / 2 := by omega
        have e4 : (0 : Int) ≤ ((i : Int) + (j : Int)) / 2 := by omega
        obtain ⟨Q, hQ⟩ : ∃ Q : Nat, Q = PP - (i + j) / 2 := ⟨_, rfl⟩
        have e5 : (PP : Int) - ((i : Int) + (j : Int)) / 2 = (Q : Int) := by omega
        have e6 : (Q : Int) < (m : Int) := by omega
        have e7 : Q < m := by omega
        have e8 : IntKind.i64.wrap (Q : Int) = Q := IntWalk.i64_in _ ⟨by omega, by omega⟩
        have e9 : wrap64 (Q : Int) = Q := IntWalk.wrap64_in _ ⟨by omega, by omega⟩
        clear hQ
        obtain ⟨x1, r1, hx1, hr1, p0, p1, p2, p3⟩ := HQ1.out.at_ (k := Q) (by omega)
        obtain ⟨x2, r2, hx2, hr2, q0, q1, q2, q3⟩ := HQ1.out.at_ (k := (i + j) / 2) (by omega)
        obtain ⟨d, hd'⟩ : ∃ d, d = cqF r1 r2 := ⟨_, rfl⟩
        have HCL : Hid (∀ W, Calls Tryz.prog 76 #[.agg #[.int .i64 x1, .int .u64 r1], .agg #[.int .i64 x2, .int .u64 r2]] W fun e w' => e = .returned (.int .i64 d) ∧ Below W.heap.size W w') := Lib.hid fun W => by
          rw [hd']
          exact clos_76 x1 x2 r1 r2 W
        clear hd' hr1 hr2 hx1 hx2
        go_upto_region 35 with fail
        go_still_tail 11, (by kernel_rfl)
        change wpList _ _ _ _ _ wr.drew
        have HQ2 : Hid (QB wr.drew g m) := Lib.hid (HQ1.out.below (Below.refl _ _).drew HQ1.out.lt)
        have HG2 : Hid (wx.grownBy wr.drew (some g)) := Lib.hid (Lib.grownBy_trans HG1.out (Below.by_ (Below.refl _ _).drew))
        clear HQ1 HG1 p0 p1 p2 p3 q0 q1 q2 q3
        generalize wr.drew = e2' at HQ2 HG2 ⊢
        go_wp2_with fail
        refine (HCL.out _).mono ?_
        rintro e e3' ⟨rfl, hb⟩
        have HQ3 : Hid (QB e3' g m) := Lib.hid (HQ2.out.below hb HQ2.out.lt)
        have HG3 : Hid (wx.grownBy e3' (some g)) := Lib.hid (Lib.grownBy_trans HG2.out (Below.by_ hb))
        clear hb HQ2 HG2 HCL
        by_cases hdd : d < 0
        · have hddd : decide (d < 0) = true := by simpa using hdd
          clear hdd
          go_wp2_with fail
          go_roundw
          case rel => exact ⟨i, (i + j) / 2, rfl, by rw [show ((i : Int) + (j : Int)) / 2 = (((i + j) / 2 : Nat) : Int) by omega], by omega, by omega, by omega, HQ3, HG3⟩
          case measure => simp [intOf]; omega
        · have hddd : decide (d < 0) = false := by simpa using hdd
          clear hdd
          go_wp2_with fail
          go_roundw
          case rel => exact ⟨(i + j) / 2 + 1, j, by rw [show ((i : Int) + (j : Int)) / 2 + 1 = (((i + j) / 2 + 1 : Nat) : Int) by omega], rfl, by omega, by omega, by omega, HQ3, HG3⟩
          case measure => simp [intOf]; omega
      have hlt' : ¬ (i : Int) < (j : Int) := by omega
      obtain rfl : i = j := by omega
      obtain ⟨EE, hEE⟩ : ∃ EE : Nat, EE = D + M - i := ⟨_, rfl⟩
      have hev : (D : Int) + (M : Int) - (i : Int) = (EE : Int) := by omega
      have hEb : M ≤ EE ∧ D ≤ EE ∧ EE ≤ E ∧ A ≤ i ∧ i ≤ D ∧ i ≤ M := by omega
      clear hEE
      by_cases k1z1 : i < M
      · have k1d : decide ((i : Int) < (M : Int)) = true := by simp; omega
        by_cases k2z1 : M < EE
        · have k2d : decide ((M : Int) < (EE : Int)) = true := by simp; omega
          go_wp2_with fail
          refine (rot_108 g m cap _ _ _ _ _ hm (by omega) (by omega) (by omega) (by omega) HQ1.out).mono ?_
          rintro e wz1 ⟨rfl, hqz1, hgz1⟩
          have HQz1 := Lib.hid hqz1
          have HGz1 := Lib.hid (Lib.grownBy_trans HG1.out hgz1)
          clear hqz1 hgz1
          by_cases k1z2 : A < i
          · have k1d : decide ((A : Int) < (i : Int)) = true := by simp; omega
            by_cases k2z2 : i < D
            · have k2d : decide ((i : Int) < (D : Int)) = true := by simp; omega
              go_wp2_with fail
              refine (IH.out _ _ _ _ (by omega) (by omega) (by omega) (by omega) (by omega) HQz1.out).mono ?_
              rintro e wz2 ⟨rfl, hqz2, hgz2⟩
              have HQz2 := Lib.hid hqz2
              have HGz2 := Lib.hid (Lib.grownBy_trans HGz1.out hgz2)
              clear hqz2 hgz2
              by_cases k1z3 : D < EE
              · have k1d : decide ((D : Int) < (EE : Int)) = true := by simp; omega
                by_cases k2z3 : EE < E
                · have k2d : decide ((EE : Int) < (E : Int)) = true := by simp; omega
                  go_wp2_with fail
                  refine (IH.out _ _ _ _ (by omega) (by omega) (by omega) (by omega) (by omega) HQz2.out).mono ?_
                  rintro e wz3 ⟨rfl, hqz3, hgz3⟩
                  have HQz3 := Lib.hid hqz3
                  have HGz3 := Lib.hid (Lib.grownBy_trans HGz2.out hgz3)
                  clear hqz3 hgz3
                  go_wp2_with fail
                  go_end0
                  exact ⟨rfl, HQz3.out, HGz3.out⟩
                · have k2d : decide ((EE : Int) < (E : Int)) = false := by simp; omega
                  go_wp2_with fail
                  go_end0
                  exact ⟨rfl, HQz2.out, HGz2.out⟩
              · have k1d : decide ((D : Int) < (EE : Int)) = false := by simp; omega
                go_wp2_with fail
                go_end0
                exact ⟨rfl, HQz2.out, HGz2.out⟩
            · have k2d : decide ((i : Int) < (D : Int)) = false := by simp; omega
              by_cases k1z4 : D < EE
              · have k1d : decide ((D : Int) < (EE : Int)) = true := by simp; omega
                by_cases k2z4 : EE < E
                · have k2d : decide ((EE : Int) < (E : Int)) = true := by simp; omega
                  go_wp2_with fail
                  refine (IH.out _ _ _ _ (by omega) (by omega) (by omega) (by omega) (by omega) HQz1.out).mono ?_
                  rintro e wz4 ⟨rfl, hqz4, hgz4⟩
                  have HQz4 := Lib.hid hqz4
                  have HGz4 := Lib.hid (Lib.grownBy_trans HGz1.out hgz4)
                  clear hqz4 hgz4
                  go_wp2_with fail
                  go_end0
                  exact ⟨rfl, HQz4.out, HGz4.out⟩
                · have k2d : decide ((EE : Int) < (E : Int)) = false := by simp; omega
                  go_wp2_with fail
                  go_end0
                  exact ⟨rfl, HQz1.out, HGz1.out⟩
              · have k1d : decide ((D : Int) < (EE : Int)) = false := by simp; omega
                go_wp2_with fail
                go_end0
                exact ⟨rfl, HQz1.out, HGz1.out⟩
          · have k1d : decide ((A : Int) < (i : Int)) = false := by simp; omega
            by_cases k1z5 : D < EE
            · have k1d : decide ((D : Int) < (EE : Int)) = true := by simp; omega
              by_cases k2z5 : EE < E
              · have k2d : decide ((EE : Int) < (E : Int)) = true := by simp; omega
                go_wp2_with fail
                refine (IH.out _ _ _ _ (by omega) (by omega) (by omega) (by omega) (by omega) HQz1.out).mono ?_
                rintro e wz5 ⟨rfl, hqz5, hgz5⟩
                have HQz5 := Lib.hid hqz5
                have HGz5 := Lib.hid (Lib.grownBy_trans HGz1.out hgz5)
                clear hqz5 hgz5
                go_wp2_with fail
                go_end0
                exact ⟨rfl, HQz5.out, HGz5.out⟩
              · have k2d : decide ((EE : Int) < (E : Int)) = false := by simp; omega
                go_wp2_with fail
                go_end0
                exact ⟨rfl, HQz1.out, HGz1.out⟩
            · have k1d : decide ((D : Int) < (EE : Int)) = false := by simp; omega
              go_wp2_with fail
              go_end0
              exact ⟨rfl, HQz1.out, HGz1.out⟩
        · have k2d : decide ((M : Int) < (EE : Int)) = false := by simp; omega
          by_cases k1z6 : A < i
          · have k1d : decide ((A : Int) < (i : Int)) = true := by simp; omega
            by_cases k2z6 : i < D
            · have k2d : decide ((i : Int) < (D : Int)) = true := by simp; omega
              go_wp2_with fail
              refine (IH.out _ _ _ _ (by omega) (by omega) (by omega) (by omega) (by omega) HQ1.out).mono ?_
              rintro e wz6 ⟨rfl, hqz6, hgz6⟩
              have HQz6 := Lib.hid hqz6
              have HGz6 := Lib.hid (Lib.grownBy_trans HG1.out hgz6)
              clear hqz6 hgz6
              by_cases k1z7 : D < EE
              · have k1d : decide ((D : Int) < (EE : Int)) = true := by simp; omega
                by_cases k2z7 : EE < E
                · have k2d : decide ((EE : Int) < (E : Int)) = true := by simp; omega
                  go_wp2_with fail
                  refine (IH.out _ _ _ _ (by omega) (by omega) (by omega) (by omega) (by omega) HQz6.out).mono ?_
                  rintro e wz7 ⟨rfl, hqz7, hgz7⟩
                  have HQz7 := Lib.hid hqz7
                  have HGz7 := Lib.hid (Lib.grownBy_trans HGz6.out hgz7)
                  clear hqz7 hgz7
                  go_wp2_with fail
                  go_end0
                  exact ⟨rfl, HQz7.out, HGz7.out⟩
                · have k2d : decide ((EE : Int) < (E : Int)) = false := by simp; omega
                  go_wp2_with fail
                  go_end0
                  exact ⟨rfl, HQz6.out, HGz6.out⟩
              · have k1d : decide ((D : Int) < (EE : Int)) = false := by simp; omega
                go_wp2_with fail
                go_end0
                exact ⟨rfl, HQz6.out, HGz6.out⟩
            · have k2d : decide ((i : Int) < (D : Int)) = false := by simp; omega
              by_cases k1z8 : D < EE
              · have k1d : decide ((D : Int) < (EE : Int)) = true := by simp; omega
                by_cases k2z8 : EE < E
                · have k2d : decide ((EE : Int) < (E : Int)) = true := by simp; omega
                  go_wp2_with fail
                  refine (IH.out _ _ _ _ (by omega) (by omega) (by omega) (by omega) (by omega) HQ1.out).mono ?_
                  rintro e wz8 ⟨rfl, hqz8, hgz8⟩
                  have HQz8 := Lib.hid hqz8
                  have HGz8 := Lib.hid (Lib.grownBy_trans HG1.out hgz8)
                  clear hqz8 hgz8
                  go_wp2_with fail
                  go_end0
                  exact ⟨rfl, HQz8.out, HGz8.out⟩
                · have k2d : decide ((EE : Int) < (E : Int)) = false := by simp; omega
                  go_wp2_with fail
                  go_end0
                  exact ⟨rfl, HQ1.out, HG1.out⟩
              · have k1d : decide ((D : Int) < (EE : Int)) = false := by simp; omega
                go_wp2_with fail
                go_end0
                exact ⟨rfl, HQ1.out, HG1.out⟩
          · have k1d : decide ((A : Int) < (i : Int)) = false := by simp; omega
            by_cases k1z9 : D < EE
            · have k1d : decide ((D : Int) < (EE : Int)) = true := by simp; omega
              by_cases k2z9 : EE < E
              · have k2d : decide ((EE : Int) < (E : Int)) = true := by simp; omega
                go_wp2_with fail
                refine (IH.out _ _ _ _ (by omega) (by omega) (by omega) (by omega) (by omega) HQ1.out).mono ?_
                rintro e wz9 ⟨rfl, hqz9, hgz9⟩
                have HQz9 := Lib.hid hqz9
                have HGz9 := Lib.hid (Lib.grownBy_trans HG1.out hgz9)
                clear hqz9 hgz9
                go_wp2_with fail
                go_end0
                exact ⟨rfl, HQz9.out, HGz9.out⟩
              · have k2d : decide ((EE : Int) < (E : Int)) = false := by simp; omega
                go_wp2_with fail
                go_end0
                exact ⟨rfl, HQ1.out, HG1.out⟩
            · have k1d : decide ((D : Int) < (EE : Int)) = false := by simp; omega
              go_wp2_with fail
              go_end0
              exact ⟨rfl, HQ1.out, HG1.out⟩
      · have k1d : decide ((i : Int) < (M : Int)) = false := by simp; omega
        by_cases k1z10 : A < i
        · have k1d : decide ((A : Int) < (i : Int)) = true := by simp; omega
          by_cases k2z10 : i < D
          · have k2d : decide ((i : Int) < (D : Int)) = true := by simp; omega
            go_wp2_with fail
            refine (IH.out _ _ _ _ (by omega) (by omega) (by omega) (by omega) (by omega) HQ1.out).mono ?_
            rintro e wz10 ⟨rfl, hqz10, hgz10⟩
            have HQz10 := Lib.hid hqz10
            have HGz10 := Lib.hid (Lib.grownBy_trans HG1.out hgz10)
            clear hqz10 hgz10
            by_cases k1z11 : D < EE
            · have k1d : decide ((D : Int) < (EE : Int)) = true := by simp; omega
              by_cases k2z11 : EE < E
              · have k2d : decide ((EE : Int) < (E : Int)) = true := by simp; omega
                go_wp2_with fail
                refine (IH.out _ _ _ _ (by omega) (by omega) (by omega) (by omega) (by omega) HQz10.out).mono ?_
                rintro e wz11 ⟨rfl, hqz11, hgz11⟩
                have HQz11 := Lib.hid hqz11
                have HGz11 := Lib.hid (Lib.grownBy_trans HGz10.out hgz11)
                clear hqz11 hgz11
                go_wp2_with fail
                go_end0
                exact ⟨rfl, HQz11.out, HGz11.out⟩
              · have k2d : decide ((EE : Int) < (E : Int)) = false := by simp; omega
                go_wp2_with fail
                go_end0
                exact ⟨rfl, HQz10.out, HGz10.out⟩
            · have k1d : decide ((D : Int) < (EE : Int)) = false := by simp; omega
              go_wp2_with fail
              go_end0
              exact ⟨rfl, HQz10.out, HGz10.out⟩
          · have k2d : decide ((i : Int) < (D : Int)) = false := by simp; omega
            by_cases k1z12 : D < EE
            · have k1d : decide ((D : Int) < (EE : Int)) = true := by simp; omega
              by_cases k2z12 : EE < E
              · have k2d : decide ((EE : Int) < (E : Int)) = true := by simp; omega
                go_wp2_with fail
                refine (IH.out _ _ _ _ (by omega) (by omega) (by omega) (by omega) (by omega) HQ1.out).mono ?_
                rintro e wz12 ⟨rfl, hqz12, hgz12⟩
                have HQz12 := Lib.hid hqz12
                have HGz12 := Lib.hid (Lib.grownBy_trans HG1.out hgz12)
                clear hqz12 hgz12
                go_wp2_with fail
                go_end0
                exact ⟨rfl, HQz12.out, HGz12.out⟩
              · have k2d : decide ((EE : Int) < (E : Int)) = false := by simp; omega
                go_wp2_with fail
                go_end0
                exact ⟨rfl, HQ1.out, HG1.out⟩
            · have k1d : decide ((D : Int) < (EE : Int)) = false := by simp; omega
              go_wp2_with fail
              go_end0
              exact ⟨rfl, HQ1.out, HG1.out⟩
        · have k1d : decide ((A : Int) < (i : Int)) = false := by simp; omega
          by_cases k1z13 : D < EE
          · have k1d : decide ((D : Int) < (EE : Int)) = true := by simp; omega
            by_cases k2z13 : EE < E
            · have k2d : decide ((EE : Int) < (E : Int)) = true := by simp; omega
              go_wp2_with fail
              refine (IH.out _ _ _ _ (by omega) (by omega) (by omega) (by omega) (by omega) HQ1.out).mono ?_
              rintro e wz13 ⟨rfl, hqz13, hgz13⟩
              have HQz13 := Lib.hid hqz13
              have HGz13 := Lib.hid (Lib.grownBy_trans HG1.out hgz13)
              clear hqz13 hgz13
              go_wp2_with fail
              go_end0
              exact ⟨rfl, HQz13.out, HGz13.out⟩
            · have k2d : decide ((EE : Int) < (E : Int)) = false := by simp; omega
              go_wp2_with fail
              go_end0
              exact ⟨rfl, HQ1.out, HG1.out⟩
          · have k1d : decide ((D : Int) < (EE : Int)) = false := by simp; omega
            go_wp2_with fail
            go_end0
            exact ⟨rfl, HQ1.out, HG1.out⟩

theorem sym_106 (g m cap : Nat) (hm : m ≤ 600) : ∀ (N : Nat) (a M b : Int) (w : World), b - a ≤ N → 0 ≤ a → a < M → M < b → b ≤ m → QB w g m →
    Calls Tryz.prog 106 #[.slice (some ⟨g, 0, none⟩) m cap, .int .i64 a, .int .i64 M, .int .i64 b, .func (.func 76) #[] #[]] w fun e w' => Kept g m w e w'
  | 0, a, M, b, w, h, h0, h1, h2, h3, hq => by omega
  | N + 1, a, M, b, w, h, h0, h1, h2, h3, hq => by
    have IH := sym_106 g m cap hm N
    obtain ⟨A, rfl⟩ : ∃ k : Nat, a = k := ⟨a.toNat, by omega⟩
    obtain ⟨M, rfl⟩ : ∃ k : Nat, M = k := ⟨M.toNat, by omega⟩
    obtain ⟨E, rfl⟩ : ∃ k : Nat, b = k := ⟨b.toNat, by omega⟩
    by_cases hA : (M : Int) - A = 1
    · exact sym_1 g m cap A M E hm w (by omega) (by omega) hA hq
    by_cases hB : (E : Int) - M = 1
    · exact sym_2 g m cap A M E hm w (by omega) (by omega) hA hB hq
    exact sym_3 g m cap A M E hm w hA hB (by omega) (by omega) (by omega) hq (fun a M b w h h0 h1 h2 h3 hq => IH a M b w (by omega) h0 h1 h2 h3 hq)
end Go.Proofs.YtonkjnkokikpgaaGreat
namespace Go.Proofs.YtonkjnkokikpgaaGreat
open Go.RowKit

set_option maxRecDepth 100000 in
set_option maxHeartbeats 4000000 in
theorem stable_96 (g m cap : Nat) (hm : m ≤ 600) (w : World) (hq : QB w g m) :
    Calls Tryz.prog 96 #[.slice (some ⟨g, 0, none⟩) m cap, .int .i64 m, .func (.func 76) #[] #[]] w fun e w' => Kept g m w e w' := by
  have HQ1 := Lib.hid hq
  have HG1 : Hid (w.grownBy w (some g)) := Lib.hid (Below.by_ (Below.refl _ _))
  clear hq
  go_enter Tryz.func96, Tryz.ntmps96
  go_wp2_with fail
  go_loopw [7, 8] (fun s t wr => ∃ a : Int, s = .int .i64 a ∧ t = .int .i64 (a + 20) ∧ 0 ≤ a ∧ a ≤ m ∧ Hid (QB wr g m) ∧ Hid (w.grownBy wr (some g))) (fun _ t _ => ((m : Int) + 20 - intOf t).toNat)
  case atStart => exact ⟨0, rfl, rfl, by omega, by omega, HQ1, HG1⟩
  case round =>
    clear HQ1 HG1
    obtain ⟨a, rfl, rfl, a1, a2, HQ1, HG1⟩ := hrel
    by_cases hlt : a + 20 ≤ m
    · have hd : decide (a + 20 ≤ (m : Int)) = true := by simpa using hlt
      go_wp2_with fail
      refine (ins_105 g m cap _ _ _ hm (by omega) (by omega) (by omega) HQ1.out).mono ?_
      rintro e w2 ⟨rfl, hq2, hg2⟩
      have HQ2 := Lib.hid hq2
      have HG2 := Lib.hid (Lib.grownBy_trans HG1.out hg2)
      clear hq2 hg2 HQ1 HG1
      go_wp2_with fail
      go_roundw
      case rel => exact ⟨a + 20, rfl, by go_num, by omega, by omega, HQ2, HG2⟩
      case measure => simp [intOf]; omega
    have hd : decide (a + 20 ≤ (m : Int)) = false := by simpa using hlt
    go_wp2_with fail
    refine (ins_105 g m cap _ _ _ hm (by omega) (by omega) (by omega) HQ1.out).mono ?_
    rintro e w2 ⟨rfl, hq2, hg2⟩
    have HQ2 := Lib.hid hq2
    have HG2 := Lib.hid (Lib.grownBy_trans HG1.out hg2)
    clear hq2 hg2 HQ1 HG1
    go_wp2_with fail
    go_loopw [6] (fun s wr => ∃ bs : Int, s = .int .i64 bs ∧ 20 ≤ bs ∧ bs ≤ 2000 ∧ Hid (QB wr g m) ∧ Hid (w.grownBy wr (some g))) (fun s _ => ((m : Int) - intOf s).toNat)
    case atStart => exact ⟨20, rfl, by omega, by omega, HQ2, HG2⟩
    case round =>
      clear HQ2 HG2
      obtain ⟨bs, rfl, b1, b2, HQ1, HG1⟩ := hrel
      by_cases hbm : ¬ bs < m
      · have hd2 : decide (bs < (m : Int)) = false := by simpa using hbm
        go_wp2_with fail
        go_end0
        exact ⟨rfl, HQ1.out, HG1.out⟩
      have hbm : bs < m := by omega
      have hd2 : decide (bs < (m : Int)) = true := by simpa using hbm
      go_wp2_with fail
      go_loopw [7, 8] (fun s t wr => ∃ c : Int, s = .int .i64 c ∧ t = .int .i64 (c + 2 * bs) ∧ 0 ≤ c ∧ c ≤ m ∧ Hid (QB wr g m) ∧ Hid (w.grownBy wr (some g))) (fun _ t _ => ((m : Int) + 2 * bs - intOf t).toNat)
      case atStart => exact ⟨0, rfl, by simp, by omega, by omega, HQ1, HG1⟩
      case round =>
        clear HQ1 HG1
        obtain ⟨c, rfl, rfl, k1, k2, HQ1, HG1⟩ := hrel
        by_cases hcl : c + 2 * bs ≤ m
        · have hd3 : decide (c + 2 * bs ≤ (m : Int)) = true := by simpa using hcl
          go_wp2_with fail
          refine (sym_106 g m cap hm 2000 _ _ _ _ (by omega) (by omega) (by omega) (by omega) (by omega) HQ1.out).mono ?_
          rintro e w2 ⟨rfl, hq2, hg2⟩
          have HQ2 := Lib.hid hq2
          have HG2 := Lib.hid (Lib.grownBy_trans HG1.out hg2)
          clear hq2 hg2 HQ1 HG1
          go_wp2_with fail
          go_roundw
          case rel => exact ⟨c + 2 * bs, rfl, by go_num, by omega, by omega, HQ2, HG2⟩
          case measure => simp [intOf]; omega
        have hd3 : decide (c + 2 * bs ≤ (m : Int)) = false := by simpa using hcl
        by_cases hcm : c + bs < m
        · have hd4 : decide (c + bs < (m : Int)) = true := by simpa using hcm
          go_wp2_with fail
          refine (sym_106 g m cap hm 2000 _ _ _ _ (by omega) (by omega) (by omega) (by omega) (by omega) HQ1.out).mono ?_
          rintro e w2 ⟨rfl, hq2, hg2⟩
          have HQ2 := Lib.hid hq2
          have HG2 := Lib.hid (Lib.grownBy_trans HG1.out hg2)
          clear hq2 hg2 HQ1 HG1
          go_wp2_with fail
          go_roundw
          case rel => exact ⟨bs * 2, rfl, by omega, by omega, HQ2, HG2⟩
          case measure => simp [intOf]; omega
        have hd4 : decide (c + bs < (m : Int)) = false := by simpa using hcm
        go_wp2_with fail
        go_roundw
        case rel => exact ⟨bs * 2, rfl, by omega, by omega, HQ1, HG1⟩
        case measure => simp [intOf]; omega

set_option maxRecDepth 100000 in
theorem sort_75 (g m cap : Nat) (hm : m ≤ 600) (w : World) (hq : QB w g m) :
    Calls Tryz.prog 75 #[.slice (some ⟨g, 0, none⟩) m cap, .func (.func 76) #[] #[]] w fun e w' => Kept g m w e w' := by
  have HC := Lib.hid (stable_96 g m cap hm w hq)
  clear hq
  go_enter Tryz.func75, Tryz.ntmps75
  go_wp2_with fail
  refine HC.out.mono ?_
  rintro e w2 ⟨rfl, hq2, hg2⟩
  have HQ2 := Lib.hid hq2
  have HG2 := Lib.hid hg2
  clear hq2 hg2
  go_wp2_with fail
  go_end0
  exact ⟨rfl, HQ2.out, HG2.out⟩
end Go.Proofs.YtonkjnkokikpgaaGreat
