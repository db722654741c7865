/- Contracts of the program's allowed and after. -/
import Derived.Test.YtnmocdfogdcliaaAsked
namespace Go.Proofs.Ytnmocdfogdcliaa
open Go.RowKit

theorem alw_min (dm ou : Nat → Int) (t : Nat) (x r : Int) : ri3 (dm t) r (min (ou t) x) = alw dm ou t x r := by
  rw [Bool.eq_iff_iff, alw, Bool.and_eq_true, ri3_iff, ri3_iff, decide_eq_true_iff]
  omega

set_option maxRecDepth 100000 in
set_option maxHeartbeats 4000000 in
theorem allowed_41 {PA : Option Addr} {n pc : Nat} {cp st fl : Int} {lo hi dm ou sp : Nat → Int} (B t : Nat) (x r : Int) (w : World) (ht : t < n) (hB : B ≤ w.heap.size) (hr : Rd w B PA (n * 5) (psc lo hi dm ou sp)) :
    Calls Try.prog 41 #[(.agg #[.int .i64 cp, .int .i64 st, .int .i64 fl, .slice PA n pc]), .int .i64 t, .int .i64 x, .int .i64 r] w fun e w' => e = .returned (.bool (alw dm ou t x r)) ∧ Below w.heap.size w w' := by
  obtain ⟨w0, hw0⟩ : ∃ zz, zz = w.alloc (.cells #[.int .i64 cp, .int .i64 st, .int .i64 fl, .slice PA n pc] 26) := ⟨_, rfl⟩
  have HK0 : Hid (Blk w0 w.heap.size 26 #[.int .i64 cp, .int .i64 st, .int .i64 fl, .slice PA n pc]) := Lib.hid (hw0 ▸ Blk.new _ _ _)
  have HB0 : Hid (Below w.heap.size w w0) := Lib.hid (hw0 ▸ below_alloc _ _)
  have HW := Lib.hid hw0
  clear hw0
  have ht' : (t : Int) < n := by omega
  have c3 : w0.cell? ⟨w.heap.size, 2 + 1, none⟩ = some (.slice PA n pc) := HK0.out.cell 3
  obtain ⟨b, o, rfl, _, _, _, p2, p3, _⟩ := per_at (hr.below (HB0.out.mono hB)) ht
  clear hr
  have HA : Hid (ri3 (dm t) r (min (ou t) x) = alw dm ou t x r) := Lib.hid (alw_min dm ou t x r)
  generalize alw dm ou t x r = V at HA ⊢
  generalize dm t = z2 at *
  generalize ou t = z3 at *
  go_enter Try.func41, Try.ntmps41
  go_upto_region 1 with fail
  rw [← HW.out]
  clear HW
  by_cases h1 : x < z3
  · have HY : Hid (ri3 z2 r x = V) := Lib.hid (by rw [← HA.out]; congr 1; omega)
    go_still_tail 15, (by kernel_rfl)
    change wpList _ _ _ _ _ w0.drew
    have HB1 : Hid (Below w.heap.size w w0.drew) := Lib.hid HB0.out.drew
    clear c3 p2 p3 HK0 HB0 HA
    generalize w0.drew = w1 at HB1 ⊢
    go_wp2_with fail
    refine (rise3 _ _ _ _).mono ?_
    rintro e w2 ⟨rfl, hb⟩
    have HB2 := Lib.hid (HB1.out.trans (hb.mono HB1.out.size))
    go_wp2_with fail
    go_ret
    exact ⟨ret_bool HY.out, HB2.out⟩
  · have HY : Hid (ri3 z2 r z3 = V) := Lib.hid (by rw [← HA.out]; congr 1; omega)
    go_still_tail 15, (by kernel_rfl)
    change wpList _ _ _ _ _ w0.drew
    have HB1 : Hid (Below w.heap.size w w0.drew) := Lib.hid HB0.out.drew
    clear c3 p2 p3 HK0 HB0 HA
    generalize w0.drew = w1 at HB1 ⊢
    go_wp2_with fail
    refine (rise3 _ _ _ _).mono ?_
    rintro e w2 ⟨rfl, hb⟩
    have HB2 := Lib.hid (HB1.out.trans (hb.mono HB1.out.size))
    go_wp2_with fail
    go_ret
    exact ⟨ret_bool HY.out, HB2.out⟩

/-- what comes next -/
def nxS (cp x r q : Int) : Int := max 0 (x - r + q - cp)
def nxN (cp x r q : Int) : Int := min (x - r + q) cp
def nxO (cp : Int) (sp : Nat → Int) (t : Nat) (x r q : Int) : Bool := decide (nxS cp x r q ≤ sp t)
/-- the three results -/
def nx3 (ok : Bool) (a b : Int) : Array Value := #[.int .i64 (if ok = true then a else 0), .int .i64 (if ok = true then b else 0), .bool ok]

set_option maxRecDepth 100000 in
set_option maxHeartbeats 4000000 in
theorem after_42 {PA : Option Addr} {n pc : Nat} {cp st fl : Int} {lo hi dm ou sp : Nat → Int} (B t : Nat) (x r q : Int) (w : World) (ht : t < n) (hcp : 0 ≤ cp ∧ cp ≤ 1099511627776) (hx : 0 ≤ x ∧ x ≤ 1099511627776) (hq : 0 ≤ q ∧ q ≤ 1099511627776) (hrr : 0 ≤ r ∧ r ≤ 1099511627776) (hB : B ≤ w.heap.size) (hr : Rd w B PA (n * 5) (psc lo hi dm ou sp)) :
    Calls Try.prog 42 #[(.agg #[.int .i64 cp, .int .i64 st, .int .i64 fl, .slice PA n pc]), .int .i64 t, .int .i64 x, .int .i64 r, .int .i64 q] w fun e w' => e = .returned (.tuple (nx3 (nxO cp sp t x r q) (nxN cp x r q) (nxS cp x r q))) ∧ Below w.heap.size w w' := by
  obtain ⟨w0, hw0⟩ : ∃ zz, zz = w.alloc (.cells #[.int .i64 cp, .int .i64 st, .int .i64 fl, .slice PA n pc] 26) := ⟨_, rfl⟩
  have HK0 : Hid (Blk w0 w.heap.size 26 #[.int .i64 cp, .int .i64 st, .int .i64 fl, .slice PA n pc]) := Lib.hid (hw0 ▸ Blk.new _ _ _)
  have HB0 : Hid (Below w.heap.size w w0) := Lib.hid (hw0 ▸ below_alloc _ _)
  have HW := Lib.hid hw0
  clear hw0
  have ht' : (t : Int) < n := by omega
  have c0 : w0.cell? ⟨w.heap.size, 0, none⟩ = some (.int .i64 cp) := HK0.out.cell 0
  have c3 : w0.cell? ⟨w.heap.size, 2 + 1, none⟩ = some (.slice PA n pc) := HK0.out.cell 3
  obtain ⟨b, o, rfl, _, _, _, _, _, p4⟩ := per_at (hr.below (HB0.out.mono hB)) ht
  clear hr
  have HO : Hid (nxO cp sp t x r q = decide (nxS cp x r q ≤ sp t)) := Lib.hid rfl
  have HN : Hid (nxN cp x r q = min (x - r + q) cp) := Lib.hid rfl
  have HS : Hid (nxS cp x r q = max 0 (x - r + q - cp)) := Lib.hid rfl
  generalize nxO cp sp t x r q = O at HO ⊢
  generalize nxN cp x r q = N at HN ⊢
  generalize nxS cp x r q = S at HO HS ⊢
  generalize sp t = z4 at *
  obtain ⟨y, hy⟩ : ∃ y, y = x - r + q := ⟨_, rfl⟩
  have hy0 : -1099511627776 ≤ y ∧ y ≤ 2199023255552 := by omega
  have hw1 : IntKind.i64.wrap (x - r) = x - r := IntWalk.i64_in _ ⟨by omega, by omega⟩
  have hw2 : IntKind.i64.wrap (x - r + q) = y := by rw [hy]; exact IntWalk.i64_in _ ⟨by omega, by omega⟩
  rw [← hy] at HN HS
  clear hy hx hq hrr
  go_enter Try.func42, Try.ntmps42
  go_upto_region 1 with fail
  rw [← HW.out]
  clear HW
  by_cases h1 : ¬ cp < y
  · have hs : S = 0 := by rw [HS.out]; omega
    have hn : N = y := by rw [HN.out]; omega
    subst hs; subst hn
    have hw3 : IntKind.i64.wrap (N - N) = 0 := by rw [Int.sub_self]; rfl
    by_cases h2 : z4 < 0
    · have ho : Hid (O = false) := Lib.hid (by rw [HO.out]; simp; omega)
      go_wp2_with fail
      go_ret3
      exact ⟨ret_val (by rw [ho.out]; rfl), HB0.out⟩
    · have ho : Hid (O = true) := Lib.hid (by rw [HO.out]; simp; omega)
      have h2d : decide (z4 < 0) = false := by simpa using h2
      go_wp2_with fail
      go_ret3
      exact ⟨ret_val (by rw [ho.out]; rfl), HB0.out⟩
  · have hs : S = y - cp := by rw [HS.out]; omega
    have hn : N = cp := by rw [HN.out]; omega
    have HN2 := Lib.hid hn
    subst hs
    clear hn HS HN
    by_cases h2 : z4 < y - cp
    · have ho : Hid (O = false) := Lib.hid (by rw [HO.out]; simp; omega)
      go_wp2_with fail
      go_ret3
      exact ⟨ret_val (by rw [ho.out]; rfl), HB0.out⟩
    · have ho : Hid (O = true) := Lib.hid (by rw [HO.out]; simp; omega)
      have h2d : decide (z4 < y - cp) = false := by simpa using h2
      go_wp2_with fail
      go_ret3
      exact ⟨ret_val (by rw [ho.out, HN2.out]; rfl), HB0.out⟩
end Go.Proofs.Ytnmocdfogdcliaa
