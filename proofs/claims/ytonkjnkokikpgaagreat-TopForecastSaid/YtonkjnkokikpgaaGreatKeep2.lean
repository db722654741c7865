/- Contracts of the program's Robust, Release and Next. Releases that keep, inflows that spoil. Plain laws; no program in sight. What the functions answer where what is asked is right. Plain laws; no program in sight. -/
import Derived.Test.YtonkjnkokikpgaaGreatSolve
import Derived.Test.YtonkjnkokikpgaaGreatProgB
namespace Go.Proofs.YtonkjnkokikpgaaGreat
open Go.RowKit

/-- what Robust hands back -/
def RobR (E : Int) (n : Nat) (f : Nat → Int × Int) (e : Ending) (w' : World) : Prop :=
  ∃ A k c, e = .returned (.tuple #[.slice A k c, .int .i64 E]) ∧ (E = 0 → k = n + 1 ∧ c = n + 1 ∧ Rd w' w'.heap.size A ((n + 1) * 2) (rsc f)) ∧ (¬ E = 0 → A = none ∧ k = 0 ∧ c = 0)

set_option maxRecDepth 100000 in
theorem field66 (a b c d : Value) (A1 A2 : Option Addr) (n1 c1 n2 c2 : Nat) (w : World) : (Instr.field 82 (.agg #[a, b, c, d, .slice A1 n1 c1, .slice A2 n2 c2]) 1).run Tryz.prog w = .ok (.slice A1 n1 c1) w := by
  first
    | kernel_rfl
    | rfl
    | (simp [go_sem, Tryz.underlying82]; done)

set_option maxRecDepth 100000 in
set_option maxHeartbeats 8000000 in
theorem Robust_12 {PA : Option Addr} {n pc : Nat} {cp st fl : Int} {lo hi dm ou sp : Nat → Int} (B : Nat) (w : World) (hn : n ≤ 9223372036854775807) (hB : B ≤ w.heap.size) (hr : Rd w B PA (n * 5) (psc lo hi dm ou sp)) :
    Calls Tryz.prog 10 #[(.agg #[.int .i64 cp, .int .i64 st, .int .i64 fl, .slice PA n pc])] w fun e w' => RobR (chkE cp st fl n lo hi dm ou sp) n (rb cp fl n lo hi dm ou sp) e w' ∧ Below w.heap.size w w' := by
  obtain ⟨w0, hw0⟩ : ∃ zz, zz = w.alloc (.cells #[.int .i64 cp, .int .i64 st, .int .i64 fl, .slice PA n pc] 30) := ⟨_, rfl⟩
  have HK0 : Hid (Blk w0 w.heap.size 30 #[.int .i64 cp, .int .i64 st, .int .i64 fl, .slice PA n pc]) := Lib.hid (hw0 ▸ Blk.new _ _ _)
  have HB0 : Hid (Below w.heap.size w w0) := Lib.hid (hw0 ▸ below_alloc _ _)
  have HW := Lib.hid hw0
  have HCK := Lib.hid (Check_14 (PA := PA) (pc := pc) (cp := cp) (st := st) (fl := fl) B w0 hn (by have := HB0.out.size; omega) (hr.below (HB0.out.mono hB)))
  have HSO : Hid ((chkE cp st fl n lo hi dm ou sp) = 0 → ∀ W, Below w.heap.size w W → Calls Tryz.prog 29 #[(.agg #[.int .i64 cp, .int .i64 st, .int .i64 fl, .slice PA n pc])] W fun e w' => (∃ A1 A2, e = .returned (.agg #[.int .i64 cp, .int .i64 st, .int .i64 fl, .slice PA n pc, .slice A1 (n + 1) (n + 1), .slice A2 n n]) ∧ Rd w' w'.heap.size A1 ((n + 1) * 2) (rsc (rb cp fl n lo hi dm ou sp)) ∧ Rd w' w'.heap.size A2 (n * 2) (rsc (rsr cp fl n lo hi dm ou sp))) ∧ Below W.heap.size W w') :=
    Lib.hid fun h W hW => solve_33 B W (good_of h) (by have := hW.size; omega) (hr.below (hW.mono hB))
  clear hw0 hr
  have c0 : w0.cell? ⟨w.heap.size, 0, none⟩ = some (.int .i64 cp) := HK0.out.cell 0
  have c1 : w0.cell? ⟨w.heap.size, 1, none⟩ = some (.int .i64 st) := HK0.out.cell 1
  have c2 : w0.cell? ⟨w.heap.size, 2, none⟩ = some (.int .i64 fl) := HK0.out.cell 2
  have c3 : w0.cell? ⟨w.heap.size, 3, none⟩ = some (.slice PA n pc) := HK0.out.cell 3
  generalize (chkE cp st fl n lo hi dm ou sp) = CE at HCK HSO ⊢
  go_enter Tryz.func10, Tryz.ntmps10
  go_upto_region 1 with fail
  rw [← HW.out]
  clear HW
  go_wp2_with fail
  refine HCK.out.mono ?_
  rintro e w1 ⟨rfl, hb⟩
  have HB1 := Lib.hid (HB0.out.trans (hb.mono HB0.out.size))
  have HK1 := Lib.hid (HK0.out.below hb HK0.out.lt)
  clear hb HK0 HB0 HCK c0 c1 c2 c3
  by_cases h1 : ¬ CE = 0
  · have h1d : (CE == 0) = false := by simpa using h1
    go_wp2_with fail
    refine bodyPost_ret (results_tmp2 rfl _ _ _) rfl ?_
    exact ⟨⟨none, 0, 0, rfl, fun h => absurd h h1, fun _ => ⟨rfl, rfl, rfl⟩⟩, HB1.out⟩
  have h1 : CE = 0 := by omega
  subst h1
  have HS := Lib.hid (HSO.out rfl _ HB1.out)
  have c0 : w1.cell? ⟨w.heap.size, 0, none⟩ = some (.int .i64 cp) := HK1.out.cell 0
  have c1 : w1.cell? ⟨w.heap.size, 1, none⟩ = some (.int .i64 st) := HK1.out.cell 1
  have c2 : w1.cell? ⟨w.heap.size, 2, none⟩ = some (.int .i64 fl) := HK1.out.cell 2
  have c3 : w1.cell? ⟨w.heap.size, 3, none⟩ = some (.slice PA n pc) := HK1.out.cell 3
  go_wp2_with fail
  refine HS.out.mono ?_
  rintro e w2 ⟨⟨A1, A2, rfl, hr1, hr2⟩, hb⟩
  have HB2 := Lib.hid (HB1.out.trans (hb.mono HB1.out.size))
  have hf := fun u => field66 (.int .i64 cp) (.int .i64 st) (.int .i64 fl) (.slice PA n pc) A1 A2 (n + 1) (n + 1) n n u
  go_wp2_with fail
  refine bodyPost_ret (results_tmp2 rfl _ _ _) rfl ?_
  exact ⟨⟨_, _, _, rfl, fun _ => ⟨rfl, rfl, hr1⟩, fun h => absurd rfl h⟩, HB2.out⟩


theorem askM_true {cp st fl : Int} {n : Nat} {lo hi dm ou sp : Nat → Int} {t x : Int} : askM cp st fl n lo hi dm ou sp t x true = askE cp st fl n lo hi dm ou sp t x := by
  unfold askM
  split
  · rename_i h; rw [h]; rfl
  · rfl
theorem rsr_hi {cp fl : Int} {n : Nat} {lo hi dm ou sp : Nat → Int} (hg : Good cp fl n lo hi dm ou sp) {k : Nat} {x : Int} (hk : k < n) (h : ri3 (rb cp fl n lo hi dm ou sp k).1 x (rb cp fl n lo hi dm ou sp k).2 = true) :
    (rsr cp fl n lo hi dm ou sp k).2 = kpH cp hi sp k (rb cp fl n lo hi dm ou sp (k + 1)) ∧ -1099511627776 ≤ (rsr cp fl n lo hi dm ou sp k).2 ∧ (rsr cp fl n lo hi dm ou sp k).2 ≤ 2199023255552 := by
  have h1 := rb_next hg hk h
  have h2 : (rsr cp fl n lo hi dm ou sp k).2 = kpH cp hi sp k (rb cp fl n lo hi dm ou sp (k + 1)) := by
    unfold rsr rst
    rw [if_neg (by omega)]
  refine ⟨h2, ?_⟩
  rw [h2]
  have h3 := hg.2.1
  have h4 := hg.2.2.2 k hk
  simp only [kpH]
  constructor <;> split <;> omega

set_option maxRecDepth 100000 in
set_option maxHeartbeats 8000000 in
theorem Release_17 {PA : Option Addr} {n pc : Nat} {cp st fl : Int} {lo hi dm ou sp : Nat → Int} (B : Nat) (t x : Int) (w : World) (hn : n ≤ 9223372036854775807) (hB : B ≤ w.heap.size) (hr : Rd w B PA (n * 5) (psc lo hi dm ou sp)) :
    Calls Tryz.prog 13 #[(.agg #[.int .i64 cp, .int .i64 st, .int .i64 fl, .slice PA n pc]), .int .i64 t, .int .i64 x] w fun e w' => e = .returned (.tuple #[.int .i64 (relV cp st fl n lo hi dm ou sp t x), .int .i64 (relE cp st fl n lo hi dm ou sp t x)]) ∧ Below w.heap.size w w' := by
  obtain ⟨w0, hw0⟩ : ∃ zz, zz = w.alloc (.cells #[.int .i64 cp, .int .i64 st, .int .i64 fl, .slice PA n pc] 30) := ⟨_, rfl⟩
  have HK0 : Hid (Blk w0 w.heap.size 30 #[.int .i64 cp, .int .i64 st, .int .i64 fl, .slice PA n pc]) := Lib.hid (hw0 ▸ Blk.new _ _ _)
  have HB0 : Hid (Below w.heap.size w w0) := Lib.hid (hw0 ▸ below_alloc _ _)
  have HW := Lib.hid hw0
  have HRD := Lib.hid hr
  have HAK0 := asked_37 (PA := PA) (pc := pc) (cp := cp) (st := st) (fl := fl) B t x none 0 0 (fun _ => 0) w0 hn (by omega) (by have := HB0.out.size; omega) (hr.below (HB0.out.mono hB)) Rd.nil
  rw [show mrB (fun _ => 0) 0 = true from rfl, askM_true] at HAK0
  have HAK := Lib.hid HAK0
  clear HAK0
  have HSO : Hid ((chkE cp st fl n lo hi dm ou sp) = 0 → ∀ W, Below w.heap.size w W → Calls Tryz.prog 29 #[(.agg #[.int .i64 cp, .int .i64 st, .int .i64 fl, .slice PA n pc])] W fun e w' => (∃ A1 A2, e = .returned (.agg #[.int .i64 cp, .int .i64 st, .int .i64 fl, .slice PA n pc, .slice A1 (n + 1) (n + 1), .slice A2 n n]) ∧ Rd w' w'.heap.size A1 ((n + 1) * 2) (rsc (rb cp fl n lo hi dm ou sp)) ∧ Rd w' w'.heap.size A2 (n * 2) (rsc (rsr cp fl n lo hi dm ou sp))) ∧ Below W.heap.size W w') :=
    Lib.hid fun h W hW => solve_33 B W (good_of h) (by have := hW.size; omega) (hr.below (hW.mono hB))
  clear hw0 hr
  have c0 : w0.cell? ⟨w.heap.size, 0, none⟩ = some (.int .i64 cp) := HK0.out.cell 0
  have c1 : w0.cell? ⟨w.heap.size, 1, none⟩ = some (.int .i64 st) := HK0.out.cell 1
  have c2 : w0.cell? ⟨w.heap.size, 2, none⟩ = some (.int .i64 fl) := HK0.out.cell 2
  have c3 : w0.cell? ⟨w.heap.size, 3, none⟩ = some (.slice PA n pc) := HK0.out.cell 3
  have HA0 : Hid (askE cp st fl n lo hi dm ou sp t x = 0 → (chkE cp st fl n lo hi dm ou sp) = 0 ∧ (0 ≤ t ∧ t < n) ∧ 0 ≤ x ∧ x ≤ cp) := Lib.hid ask_zero
  have HG : Hid ((chkE cp st fl n lo hi dm ou sp) = 0 → Good cp fl n lo hi dm ou sp) := Lib.hid good_of
  have HE : Hid (relE cp st fl n lo hi dm ou sp t x = if ¬ askE cp st fl n lo hi dm ou sp t x = 0 then askE cp st fl n lo hi dm ou sp t x else if ri3 (rb cp fl n lo hi dm ou sp t.toNat).1 x (rb cp fl n lo hi dm ou sp t.toNat).2 = false then 390 else 0) := Lib.hid rfl
  have HV : Hid (relV cp st fl n lo hi dm ou sp t x = if relE cp st fl n lo hi dm ou sp t x = 0 then max (dm t.toNat) (x - kpH cp hi sp t.toNat (rb cp fl n lo hi dm ou sp (t.toNat + 1))) else 0) := Lib.hid rfl
  generalize relV cp st fl n lo hi dm ou sp t x = V at HV ⊢
  generalize relE cp st fl n lo hi dm ou sp t x = E at HV HE ⊢
  generalize askE cp st fl n lo hi dm ou sp t x = AE at HE HAK HA0
  go_enter Tryz.func13, Tryz.ntmps13
  go_upto_region 1 with fail
  rw [← HW.out]
  clear HW
  go_wp2_with fail
  refine HAK.out.mono ?_
  rintro e w1 ⟨rfl, hb⟩
  have HB1 := Lib.hid (HB0.out.trans (hb.mono HB0.out.size))
  have HK1 := Lib.hid (HK0.out.below hb HK0.out.lt)
  clear hb HK0 HB0 HAK c0 c1 c2 c3
  by_cases h1 : ¬ AE = 0
  · have HE2 := Lib.hid (HE.out.trans (if_pos h1))
    have HV2 := Lib.hid (HV.out.trans (if_neg (by rw [HE2.out]; exact h1)))
    have h1d : (AE == 0) = false := by simpa using h1
    go_wp2_with fail
    refine bodyPost_ret (results_tmp2 rfl _ _ _) rfl ?_
    exact ⟨ret_val (by rw [HV2.out, HE2.out]; rfl), HB1.out⟩
  have h1 : AE = 0 := by omega
  subst h1
  obtain ⟨a1, ⟨a2, a3⟩, a4, a5⟩ := HA0.out rfl
  have HGG := Lib.hid (HG.out a1)
  have HE2 := Lib.hid (HE.out.trans (if_neg (by simp)))
  have HS := Lib.hid (HSO.out a1 _ HB1.out)
  clear HE HG HA0 HSO a1
  obtain ⟨k, rfl⟩ : ∃ k : Nat, t = k := ⟨t.toNat, by omega⟩
  rw [Int.toNat_natCast] at HE2 HV
  have c0 : w1.cell? ⟨w.heap.size, 0, none⟩ = some (.int .i64 cp) := HK1.out.cell 0
  have c1 : w1.cell? ⟨w.heap.size, 1, none⟩ = some (.int .i64 st) := HK1.out.cell 1
  have c2 : w1.cell? ⟨w.heap.size, 2, none⟩ = some (.int .i64 fl) := HK1.out.cell 2
  have c3 : w1.cell? ⟨w.heap.size, 3, none⟩ = some (.slice PA n pc) := HK1.out.cell 3
  go_upto_region 4 with fail
  go_wp2_with fail
  refine HS.out.mono ?_
  rintro e w2 ⟨⟨A1, A2, rfl, hr1, hr2⟩, hb⟩
  have HB2 := Lib.hid (HB1.out.trans (hb.mono HB1.out.size))
  have HR1 := Lib.hid hr1
  have HR2 := Lib.hid hr2
  clear hb hr1 hr2 HK1 HB1 HS c0 c1 c2 c3
  go_upto_region 5 with fail
  obtain ⟨w3, hw3⟩ : ∃ zz, zz = w2.alloc (.cells #[.int .i64 cp, .int .i64 st, .int .i64 fl, .slice PA n pc, .slice A1 (n + 1) (n + 1), .slice A2 n n] 82) := ⟨_, rfl⟩
  have HX3 : Hid (Blk w3 w2.heap.size 82 #[.int .i64 cp, .int .i64 st, .int .i64 fl, .slice PA n pc, .slice A1 (n + 1) (n + 1), .slice A2 n n]) := Lib.hid (hw3 ▸ Blk.new _ _ _)
  have HB3 : Hid (Below w.heap.size w w3) := Lib.hid (hw3 ▸ HB2.out.alloc HB2.out.size _)
  have HR13 : Hid (Rd w3 w3.heap.size A1 ((n + 1) * 2) (rsc (rb cp fl n lo hi dm ou sp))) := Lib.hid (hw3 ▸ (HR1.out.alloc (Nat.le_refl _) _).mono (by simp))
  have HR23 : Hid (Rd w3 w3.heap.size A2 (n * 2) (rsc (rsr cp fl n lo hi dm ou sp))) := Lib.hid (hw3 ▸ (HR2.out.alloc (Nat.le_refl _) _).mono (by simp))
  rw [← hw3]
  clear hw3 HB2 HR1 HR2
  generalize w2.heap.size = xb at *
  clear w2
  have hkn : k < n := by omega
  obtain ⟨b1, o1, rfl, _, p0, p1⟩ := rng_at HR13.out (show k < n + 1 by omega)
  have x4 : w3.cell? ⟨xb, 4, none⟩ = some (.slice (some ⟨b1, o1, none⟩) (n + 1) (n + 1)) := HX3.out.cell 4
  have hk1 : (k : Int) < (n : Int) + 1 := by omega
  have hk2 : k < n + 1 := by omega
  have HNX := Lib.hid (fun h => rsr_hi (x := x) HGG.out hkn h)
  generalize rb cp fl n lo hi dm ou sp k = R at HE2 p0 p1 HNX
  go_wp2_with fail
  refine (has_38 _ _ _ _).mono ?_
  rintro e w4 ⟨rfl, hb⟩
  have HB4 := Lib.hid (HB3.out.trans (hb.mono HB3.out.size))
  have HX4 := Lib.hid (HX3.out.below hb HX3.out.lt)
  have HR24 := Lib.hid (HR23.out.below hb)
  clear hb HR13 HR23 HX3 HB3 p0 p1 x4
  cases h2 : ri3 R.1 x R.2
  · have HE3 := Lib.hid (HE2.out.trans (if_pos h2))
    have HV3 := Lib.hid (HV.out.trans (if_neg (by rw [HE3.out]; decide)))
    go_wp2_with fail
    refine bodyPost_ret (results_tmp2 rfl _ _ _) rfl ?_
    exact ⟨ret_val (by rw [HV3.out, HE3.out]; rfl), HB4.out⟩
  have HE3 := Lib.hid (HE2.out.trans (if_neg (by rw [h2]; simp)))
  have HV3 := Lib.hid (HV.out.trans (if_pos HE3.out))
  obtain ⟨g1, g2, g3⟩ := HNX.out h2
  rw [← g1] at HV3
  clear HV HE2 h2 HNX g1
  obtain ⟨b2, o2, rfl, _, r0, r1⟩ := rng_at HR24.out hkn
  generalize rsr cp fl n lo hi dm ou sp k = R2 at HV3 r0 r1 g2 g3
  obtain ⟨z0, z1⟩ := R2
  simp only at r0 r1 g2 g3
  obtain ⟨b, o, rfl, _, _, _, p2, _, _⟩ := per_at (HRD.out.below (HB4.out.mono hB)) hkn
  have x3 : w4.cell? ⟨xb, 3, none⟩ = some (.slice (some ⟨b, o, none⟩) n pc) := HX4.out.cell 3
  have x3' : w4.cell? ⟨xb, 0 + 3, none⟩ = some (.slice (some ⟨b, o, none⟩) n pc) := HX4.out.cell 3
  have x3'' : w4.cell? ⟨xb, 2 + 1, none⟩ = some (.slice (some ⟨b, o, none⟩) n pc) := HX4.out.cell 3
  have x5 : w4.cell? ⟨xb, 5, none⟩ = some (.slice (some ⟨b2, o2, none⟩) n n) := HX4.out.cell 5
  clear HRD
  generalize dm k = z2 at *
  have hcp := HGG.out.2.1
  obtain ⟨y, hy⟩ : ∃ y, y = x - z1 := ⟨_, rfl⟩
  have hwy : IntKind.i64.wrap (x - z1) = y := by rw [hy]; exact IntWalk.i64_in _ ⟨by omega, by omega⟩
  rw [← hy] at HV3
  clear hy g2 g3
  have hkn' : (k : Int) < n := by omega
  go_upto_region 7 with fail
  by_cases h5 : z2 < y
  · have HV4 : Hid (V = y) := Lib.hid (by rw [HV3.out]; omega)
    go_quiet (fail)
    go_wp2_with fail
    refine bodyPost_ret (results_tmp2 rfl _ _ _) rfl ?_
    exact ⟨ret_val (by rw [HV4.out, HE3.out]; rfl), below_quiet HB4.out ⟨_, rfl⟩⟩
  · have HV4 : Hid (V = z2) := Lib.hid (by rw [HV3.out]; omega)
    go_quiet (fail)
    go_wp2_with fail
    refine bodyPost_ret (results_tmp2 rfl _ _ _) rfl ?_
    exact ⟨ret_val (by rw [HV4.out, HE3.out]; rfl), below_quiet HB4.out ⟨_, rfl⟩⟩
end Go.Proofs.YtonkjnkokikpgaaGreat
namespace Go.Proofs.YtonkjnkokikpgaaGreat
open Go.RowKit
section
variable {cp fl : Int} {n : Nat} {lo hi dm ou sp : Nat → Int}
/-- what a robust store is -/
theorem rob_iff (_hg : Good cp fl n lo hi dm ou sp) {t : Nat} (ht : t < n) {x : Int} : ri3 (rb cp fl n lo hi dm ou sp t).1 x (rb cp fl n lo hi dm ou sp t).2 = true ↔
    (rb cp fl n lo hi dm ou sp (t + 1)).1 ≤ (rb cp fl n lo hi dm ou sp (t + 1)).2 ∧ kpL lo t (rb cp fl n lo hi dm ou sp (t + 1)) ≤ kpH cp hi sp t (rb cp fl n lo hi dm ou sp (t + 1)) ∧
      kpL lo t (rb cp fl n lo hi dm ou sp (t + 1)) + dm t ≤ x ∧ x ≤ cp ∧ x ≤ kpH cp hi sp t (rb cp fl n lo hi dm ou sp (t + 1)) + ou t := by
  rw [rb_step ht, ri3_iff]
  generalize rb cp fl n lo hi dm ou sp (t + 1) = R
  unfold bef
  by_cases h1 : R.2 < R.1
  · rw [if_pos h1]; simp only; omega
  rw [if_neg h1]
  by_cases h2 : kpH cp hi sp t R < kpL lo t R
  · rw [if_pos h2]; simp only; omega
  rw [if_neg h2]
  by_cases h3 : min cp (kpH cp hi sp t R + ou t) < kpL lo t R + dm t
  · rw [if_pos h3]; simp only; omega
  rw [if_neg h3]
  simp only
  omega
/-- the release keeps the stores robust with every inflow of the range -/
theorem keep_ok (hg : Good cp fl n lo hi dm ou sp) {t : Nat} (ht : t < n) {x q r : Int} (hx : ri3 (rb cp fl n lo hi dm ou sp t).1 x (rb cp fl n lo hi dm ou sp t).2 = true) (hq : lo t ≤ q ∧ q ≤ hi t)
    (hr : r = max (dm t) (x - kpH cp hi sp t (rb cp fl n lo hi dm ou sp (t + 1)))) :
    (dm t ≤ r ∧ r ≤ ou t ∧ r ≤ x) ∧ nxS cp x r q ≤ sp t ∧ ri3 (rb cp fl n lo hi dm ou sp (t + 1)).1 (nxN cp x r q) (rb cp fl n lo hi dm ou sp (t + 1)).2 = true ∧ 0 ≤ nxN cp x r q ∧ nxN cp x r q ≤ cp := by
  obtain ⟨h1, h2, h3, h4, h5⟩ := (rob_iff hg ht).1 hx
  obtain ⟨⟨g1, g2, g3⟩, ⟨g4, g5, g6⟩, g7, g8⟩ := hg.2.2.2 t ht
  have hok := rb_ok hg (t + 1) (by omega)
  rw [ri3_iff]
  generalize rb cp fl n lo hi dm ou sp (t + 1) = R at *
  obtain ⟨a, b⟩ := R
  simp only at *
  have hab : 0 ≤ a ∧ b ≤ cp := by
    rcases hok with e | e
    · injection e with e1 e2; omega
    · simp only at e; omega
  unfold nxS nxN
  simp only [kpL, kpH] at h2 h3 h5 hr
  by_cases hb : b = cp
  · rw [if_pos hb] at *; omega
  · rw [if_neg hb] at *; omega
end
end Go.Proofs.YtonkjnkokikpgaaGreat
namespace Go.Proofs.YtonkjnkokikpgaaGreat
open Go.RowKit
section
variable {cp st fl : Int} {n : Nat} {lo hi dm ou sp : Nat → Int} {k : Nat} {x : Int}
theorem ask_ok (hc : chkE cp st fl n lo hi dm ou sp = 0) (hk : k < n) (hx : 0 ≤ x ∧ x ≤ cp) : askE cp st fl n lo hi dm ou sp (k : Int) x = 0 := by
  unfold askE
  rw [if_neg (Decidable.not_not.2 hc), if_neg (by omega), if_neg (by rw [ri3_iff.2 hx]; simp)]
theorem rel_ok (hc : chkE cp st fl n lo hi dm ou sp = 0) (hk : k < n) (hx : 0 ≤ x ∧ x ≤ cp) (h : ri3 (rb cp fl n lo hi dm ou sp k).1 x (rb cp fl n lo hi dm ou sp k).2 = true) :
    relE cp st fl n lo hi dm ou sp (k : Int) x = 0 ∧ relV cp st fl n lo hi dm ou sp (k : Int) x = max (dm k) (x - kpH cp hi sp k (rb cp fl n lo hi dm ou sp (k + 1))) := by
  have h1 : relE cp st fl n lo hi dm ou sp (k : Int) x = 0 := by
    unfold relE
    rw [if_neg (by rw [ask_ok hc hk hx]; simp), Int.toNat_natCast, h]
    rfl
  refine ⟨h1, ?_⟩
  unfold relV
  rw [if_pos h1, Int.toNat_natCast]
theorem askM_of (hc : chkE cp st fl n lo hi dm ou sp = 0) (hk : k < n) (hx : 0 ≤ x ∧ x ≤ cp) : askM cp st fl n lo hi dm ou sp (k : Int) x true = 0 := by
  rw [askM_true]
  exact ask_ok hc hk hx
theorem nx_ok (hc : chkE cp st fl n lo hi dm ou sp = 0) (hk : k < n) (hx : 0 ≤ x ∧ x ≤ cp) {r q : Int} (hr : 0 ≤ r ∧ r ≤ 1099511627776) (hq : 0 ≤ q ∧ q ≤ 1099511627776) (ha : dm k ≤ r ∧ r ≤ ou k ∧ r ≤ x) :
    nxV cp st fl n lo hi dm ou sp (k : Int) x r q = .tuple (nx4 (nxO cp sp k x r q) (nxN cp x r q) (nxS cp x r q) 0) := by
  have h1 : nxE cp st fl n lo hi dm ou sp (k : Int) x r q = 0 := by
    unfold nxE
    rw [ri3_iff.2 hr, ri3_iff.2 hq]
    exact askM_of hc hk hx
  have h2 : alw dm ou k x r = true := by
    unfold alw
    rw [ri3_iff.2 ⟨ha.1, ha.2.1⟩]
    simpa using ha.2.2
  unfold nxV nxB
  rw [h1, Int.toNat_natCast, h2]
  simp
end
end Go.Proofs.YtonkjnkokikpgaaGreat
