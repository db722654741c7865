/- Contract of the reference's Release: the walk. -/
import Derived.Test.YtnmocdfogdcliaaRefRelease
namespace Go.Proofs.Ytnmocdfogdcliaa
open Go.RowKit

/-- where a store is robust, the next moment has robust stores -/
theorem rb_next {cp fl : Int} {n : Nat} {lo hi dm ou sp : Nat → Int} (hg : Good cp fl n lo hi dm ou sp) {k : Nat} {x : Int} (hk : k < n) (h : ri3 (rb cp fl n lo hi dm ou sp k).1 x (rb cp fl n lo hi dm ou sp k).2 = true) :
    0 ≤ (rb cp fl n lo hi dm ou sp (k + 1)).1 ∧ (rb cp fl n lo hi dm ou sp (k + 1)).1 ≤ (rb cp fl n lo hi dm ou sp (k + 1)).2 ∧ (rb cp fl n lo hi dm ou sp (k + 1)).2 ≤ cp := by
  rcases rb_ok hg (k + 1) (by omega) with e | e
  · rw [rb_step hk, e] at h
    simp [bef, ri3] at h
    omega
  · exact e

set_option maxRecDepth 100000 in
set_option maxHeartbeats 8000000 in
theorem Release_18 {PA : Option Addr} {n pc : Nat} {cp st fl : Int} {lo hi dm ou sp : Nat → Int} (B : Nat) (t x : Int) (w : World) (hn : n ≤ 9223372036854775807) (hB : B ≤ w.heap.size) (hr : Rd w B PA (n * 5) (psc lo hi dm ou sp)) :
    Calls Try.prog 18 #[(.agg #[.int .i64 cp, .int .i64 st, .int .i64 fl, .slice PA n pc]), .int .i64 t, .int .i64 x] w fun e w' => e = .returned (.tuple #[.int .i64 (relV cp st fl n lo hi dm ou sp t x), .int .i64 (relE cp st fl n lo hi dm ou sp t x)]) ∧ Below w.heap.size w w' := by
  obtain ⟨w0, hw0⟩ : ∃ zz, zz = w.alloc (.cells #[.int .i64 cp, .int .i64 st, .int .i64 fl, .slice PA n pc] 26) := ⟨_, rfl⟩
  have HK0 : Hid (Blk w0 w.heap.size 26 #[.int .i64 cp, .int .i64 st, .int .i64 fl, .slice PA n pc]) := Lib.hid (hw0 ▸ Blk.new _ _ _)
  have HB0 : Hid (Below w.heap.size w w0) := Lib.hid (hw0 ▸ below_alloc _ _)
  have HW := Lib.hid hw0
  have HRD := Lib.hid hr
  have HAK := Lib.hid (asked_39 (PA := PA) (pc := pc) (cp := cp) (st := st) (fl := fl) B t x w0 hn (by have := HB0.out.size; omega) (hr.below (HB0.out.mono hB)))
  have HRB : Hid (∀ W, Below w.heap.size w W → Calls Try.prog 13 #[(.agg #[.int .i64 cp, .int .i64 st, .int .i64 fl, .slice PA n pc])] W fun e w' => (∃ A k c, e = .returned (.tuple #[.slice A k c, .int .i64 (chkE cp st fl n lo hi dm ou sp)]) ∧ ((chkE cp st fl n lo hi dm ou sp) = 0 → k = n + 1 ∧ c = n + 1 ∧ Rd w' w'.heap.size A ((n + 1) * 2) (rsc (rb cp fl n lo hi dm ou sp))) ∧ (¬ (chkE cp st fl n lo hi dm ou sp) = 0 → A = none ∧ k = 0 ∧ c = 0)) ∧ Below W.heap.size W w') :=
    Lib.hid fun W h => Robust_13 B W hn (by have := h.size; omega) (hr.below (h.mono hB))
  clear hw0 hr
  have c0 : w0.cell? ⟨w.heap.size, 0, none⟩ = some (.int .i64 cp) := HK0.out.cell 0
  have c1 : w0.cell? ⟨w.heap.size, 1, none⟩ = some (.int .i64 st) := HK0.out.cell 1
  have c2 : w0.cell? ⟨w.heap.size, 2, none⟩ = some (.int .i64 fl) := HK0.out.cell 2
  have c3 : w0.cell? ⟨w.heap.size, 3, none⟩ = some (.slice PA n pc) := HK0.out.cell 3
  have HA0 : Hid (askE cp st fl n lo hi dm ou sp t x = 0 → (chkE cp st fl n lo hi dm ou sp) = 0 ∧ (0 ≤ t ∧ t < n) ∧ 0 ≤ x ∧ x ≤ cp) := Lib.hid ask_zero
  have HG : Hid ((chkE cp st fl n lo hi dm ou sp) = 0 → Good cp fl n lo hi dm ou sp) := Lib.hid good_of
  have HE : Hid (relE cp st fl n lo hi dm ou sp t x = if ¬ askE cp st fl n lo hi dm ou sp t x = 0 then askE cp st fl n lo hi dm ou sp t x else if ri3 (rb cp fl n lo hi dm ou sp t.toNat).1 x (rb cp fl n lo hi dm ou sp t.toNat).2 = false then 390 else 0) := Lib.hid rfl
  have HV : Hid (relV cp st fl n lo hi dm ou sp t x = if relE cp st fl n lo hi dm ou sp t x = 0 then max (dm t.toNat) (x - kpH cp hi sp t.toNat (rb cp fl n lo hi dm ou sp (t.toNat + 1))) else 0) := Lib.hid rfl
  generalize relV cp st fl n lo hi dm ou sp t x = V at HV ⊢
  generalize relE cp st fl n lo hi dm ou sp t x = E at HV HE ⊢
  generalize askE cp st fl n lo hi dm ou sp t x = AE at HE HAK HA0
  go_enter Try.func18, Try.ntmps18
  go_upto_region 1 with fail
  rw [← HW.out]
  clear HW
  go_wp2_with fail
  refine HAK.out.mono ?_
  rintro e w1 ⟨rfl, hb⟩
  have HB1 := Lib.hid (HB0.out.trans (hb.mono HB0.out.size))
  have HK1 := Lib.hid (HK0.out.below hb HK0.out.lt)
  clear hb HK0 HB0 HAK c0 c1 c2 c3
  by_cases h1 : ¬ AE = 0
  · have HE2 := Lib.hid (HE.out.trans (if_pos h1))
    have HV2 := Lib.hid (HV.out.trans (if_neg (by rw [HE2.out]; exact h1)))
    have h1d : (AE == 0) = false := by simpa using h1
    go_wp2_with fail
    refine bodyPost_ret (results_tmp2 rfl _ _ _) rfl ?_
    exact ⟨ret_val (by rw [HV2.out, HE2.out]; rfl), HB1.out⟩
  have h1 : AE = 0 := by omega
  subst h1
  obtain ⟨a1, ⟨a2, a3⟩, a4, a5⟩ := HA0.out rfl
  have HGG := Lib.hid (HG.out a1)
  have HE2 := Lib.hid (HE.out.trans (if_neg (by simp)))
  clear HE HG HA0
  generalize (chkE cp st fl n lo hi dm ou sp) = CE at a1 HRB
  subst a1
  obtain ⟨k, rfl⟩ : ∃ k : Nat, t = k := ⟨t.toNat, by omega⟩
  rw [Int.toNat_natCast] at HE2 HV
  have c0 : w1.cell? ⟨w.heap.size, 0, none⟩ = some (.int .i64 cp) := HK1.out.cell 0
  have c1 : w1.cell? ⟨w.heap.size, 1, none⟩ = some (.int .i64 st) := HK1.out.cell 1
  have c2 : w1.cell? ⟨w.heap.size, 2, none⟩ = some (.int .i64 fl) := HK1.out.cell 2
  have c3 : w1.cell? ⟨w.heap.size, 3, none⟩ = some (.slice PA n pc) := HK1.out.cell 3
  go_wp2_with fail
  refine (HRB.out _ HB1.out).mono ?_
  rintro e w2 ⟨⟨A, k', c', rfl, hA, _⟩, hb⟩
  obtain ⟨rfl, rfl, hrow⟩ := hA trivial
  have HB2 := Lib.hid (HB1.out.trans (hb.mono HB1.out.size))
  have HK2 := Lib.hid (HK1.out.below hb HK1.out.lt)
  have HROW := Lib.hid hrow
  clear hb HK1 HB1 hA hrow c0 c1 c2 c3
  obtain ⟨b, o, rfl, hbs, p0, p1⟩ := rng_at HROW.out (show k < n + 1 by omega)
  have hk1 : (k : Int) < (n : Int) + 1 := by omega
  have hk2 : k < n + 1 := by omega
  have HNX := Lib.hid (fun h => rb_next (x := x) HGG.out (show k < n by omega) h)
  generalize rb cp fl n lo hi dm ou sp k = R at HE2 p0 p1 HNX
  go_wp2_with fail
  refine (Has_25 _ _ _ _).mono ?_
  rintro e w3 ⟨rfl, hb⟩
  have HB3 := Lib.hid (HB2.out.trans (hb.mono HB2.out.size))
  have HK3 := Lib.hid (HK2.out.below hb HK2.out.lt)
  have HROW3 := Lib.hid (HROW.out.below hb)
  clear hb HROW HB2 HK2 p0 p1
  cases h2 : ri3 R.1 x R.2
  · have HE3 := Lib.hid (HE2.out.trans (if_pos h2))
    have HV3 := Lib.hid (HV.out.trans (if_neg (by rw [HE3.out]; decide)))
    go_wp2_with fail
    refine bodyPost_ret (results_tmp2 rfl _ _ _) rfl ?_
    exact ⟨ret_val (by rw [HV3.out, HE3.out]; rfl), HB3.out⟩
  have HE3 := Lib.hid (HE2.out.trans (if_neg (by rw [h2]; simp)))
  have HV3 := Lib.hid (HV.out.trans (if_pos HE3.out))
  have hok := HNX.out h2
  clear HV HE2 h2 HNX
  obtain ⟨b', o', e', _, r0, r1⟩ := rng_at HROW3.out (show k + 1 < n + 1 by omega)
  injection e' with e'
  injection e' with e1 e2
  subst e1 e2
  generalize rb cp fl n lo hi dm ou sp (k + 1) = R1 at HV3 r0 r1 hok
  obtain ⟨z0, z1⟩ := R1
  simp only at r0 r1 hok
  obtain ⟨m, hm⟩ : ∃ m : Nat, m = k + 1 := ⟨_, rfl⟩
  rw [← hm] at r0 r1
  have hwm : IntKind.i64.wrap ((k : Int) + 1) = (m : Int) := by rw [IntWalk.i64_in _ ⟨by have := HGG.out.1; omega, by have := HGG.out.1; omega⟩, hm]; rfl
  have hm1 : (m : Int) < (n : Int) + 1 := by omega
  have hm2 : m < n + 1 := by omega
  have c0 : w3.cell? ⟨w.heap.size, 0, none⟩ = some (.int .i64 cp) := HK3.out.cell 0
  have c1 : w3.cell? ⟨w.heap.size, 1, none⟩ = some (.int .i64 st) := HK3.out.cell 1
  have c2 : w3.cell? ⟨w.heap.size, 2, none⟩ = some (.int .i64 fl) := HK3.out.cell 2
  have c3 : w3.cell? ⟨w.heap.size, 3, none⟩ = some (.slice PA n pc) := HK3.out.cell 3
  clear hm
  have hkn : k < n := by omega
  have HC40 : Hid (Calls Try.prog 40 #[(.agg #[.int .i64 cp, .int .i64 st, .int .i64 fl, .slice PA n pc]), .int .i64 k, .agg #[.int .i64 z0, .int .i64 z1]] w3.drew fun e w' => e = .returned (.tuple #[.int .i64 (kpL lo k (z0, z1)), .int .i64 (kpH cp hi sp k (z0, z1))]) ∧ Hid (Below w3.heap.size w3 w')) :=
    Lib.hid ((kept_40 (PA := PA) (pc := pc) (st := st) B k z0 z1 w3.drew hkn HGG.out ⟨hok.1, by omega, by omega, hok.2.2⟩ (by have := HB3.out.size; simp; omega) ((HRD.out.below (HB3.out.mono hB)).drew)).mono fun e w' h => ⟨h.1, Lib.hid ((Below.refl w3.heap.size w3).drew.trans h.2)⟩)
  have hvH : -1099511627776 ≤ kpH cp hi sp k (z0, z1) ∧ kpH cp hi sp k (z0, z1) ≤ 2199023255552 := by
    have h1 := HGG.out.2.1
    have h2 := HGG.out.2.2.2 k hkn
    simp only [kpH]; split <;> omega
  have hdm := (HGG.out.2.2.2 k hkn).2.1
  have hcp := HGG.out.2.1
  generalize kpL lo k (z0, z1) = vL at HC40
  generalize kpH cp hi sp k (z0, z1) = vH at HC40 HV3 hvH
  go_upto_region 7 with fail
  go_cut [11, 12] (fun a b wc => a = .int .i64 vL ∧ b = .int .i64 vH ∧ Hid (Below w3.heap.size w3 wc))
  case first =>
    go_region_with (first | (go_at_call 40; refine HC40.out.mono ?_; rintro e w' ⟨rfl, hbl⟩))
    all_goals
      go_wp2_with fail
      go_meet
      case rel => exact ⟨rfl, rfl, hbl⟩
  case rest =>
    obtain ⟨rfl, rfl, hb⟩ := hcut
    have HB4 := Lib.hid (HB3.out.trans (hb.out.mono HB3.out.size))
    have HK4 := Lib.hid (HK3.out.below hb.out HK3.out.lt)
    clear c0 c1 c2 c3 r0 r1 hb HB3 HK3 HROW3 HC40
    have c3 : wc.cell? ⟨w.heap.size, 2 + 1, none⟩ = some (.slice PA n pc) := HK4.out.cell 3
    obtain ⟨b, o, rfl, _, _, _, p2, _, _⟩ := per_at (HRD.out.below (HB4.out.mono hB)) hkn
    clear HRD
    generalize dm k = z2 at *
    obtain ⟨y, hy⟩ : ∃ y, y = x - vH := ⟨_, rfl⟩
    have hwy : IntKind.i64.wrap (x - vH) = y := by rw [hy]; exact IntWalk.i64_in _ ⟨by omega, by omega⟩
    rw [← hy] at HV3
    clear hy
    have hkn' : (k : Int) < n := by omega
    by_cases h5 : z2 < y
    · have HV4 : Hid (V = y) := Lib.hid (by rw [HV3.out]; omega)
      go_wp2_with fail
      refine bodyPost_ret (results_tmp2 rfl _ _ _) rfl ?_
      exact ⟨ret_val (by rw [HV4.out, HE3.out]; rfl), HB4.out⟩
    · have HV4 : Hid (V = z2) := Lib.hid (by rw [HV3.out]; omega)
      go_wp2_with fail
      refine bodyPost_ret (results_tmp2 rfl _ _ _) rfl ?_
      exact ⟨ret_val (by rw [HV4.out, HE3.out]; rfl), HB4.out⟩
end Go.Proofs.Ytnmocdfogdcliaa
