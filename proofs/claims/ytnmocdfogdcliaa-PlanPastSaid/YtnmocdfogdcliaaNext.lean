/- Contracts of both functions Next. -/
import Derived.Test.YtnmocdfogdcliaaAfter
import Derived.Test.YtnmocdfogdcliaaRefRelease2
namespace Go.Proofs.Ytnmocdfogdcliaa
open Go.RowKit

/-- what Next says -/
def nxE (cp st fl : Int) (n : Nat) (lo hi dm ou sp : Nat → Int) (t x r q : Int) : Int := askM cp st fl n lo hi dm ou sp t x (ri3 0 r 1099511627776 && ri3 0 q 1099511627776)
def nxB (cp st fl : Int) (n : Nat) (lo hi dm ou sp : Nat → Int) (t x r q : Int) : Bool := decide (nxE cp st fl n lo hi dm ou sp t x r q = 0) && (alw dm ou t.toNat x r && nxO cp sp t.toNat x r q)
def nx4 (b : Bool) (a s e : Int) : Array Value := #[.int .i64 (if b = true then a else 0), .int .i64 (if b = true then s else 0), .bool b, .int .i64 e]
def nxV (cp st fl : Int) (n : Nat) (lo hi dm ou sp : Nat → Int) (t x r q : Int) : Value := .tuple (nx4 (nxB cp st fl n lo hi dm ou sp t x r q) (nxN cp x r q) (nxS cp x r q) (nxE cp st fl n lo hi dm ou sp t x r q))
theorem alw_pos {dm ou : Nat → Int} {t : Nat} {x r : Int} (h : alw dm ou t x r = true) : dm t ≤ r ∧ r ≤ ou t ∧ r ≤ x := by
  unfold alw at h
  rw [Bool.and_eq_true, ri3_iff, decide_eq_true_iff] at h
  omega

set_option maxRecDepth 100000 in
set_option maxHeartbeats 8000000 in
theorem Next_20 {PA : Option Addr} {n pc : Nat} {cp st fl : Int} {lo hi dm ou sp : Nat → Int} (B : Nat) (t x r q : Int) (w : World) (hn : n ≤ 9223372036854775807) (hB : B ≤ w.heap.size) (hr : Rd w B PA (n * 5) (psc lo hi dm ou sp)) :
    Calls Try.prog 20 #[(.agg #[.int .i64 cp, .int .i64 st, .int .i64 fl, .slice PA n pc]), .int .i64 t, .int .i64 x, .int .i64 r, .int .i64 q] w fun e w' => e = .returned (nxV cp st fl n lo hi dm ou sp t x r q) ∧ Below w.heap.size w w' := by
  obtain ⟨w0, hw0⟩ : ∃ zz, zz = w.alloc (.cells #[.int .i64 cp, .int .i64 st, .int .i64 fl, .slice PA n pc] 26) := ⟨_, rfl⟩
  have HK0 : Hid (Blk w0 w.heap.size 26 #[.int .i64 cp, .int .i64 st, .int .i64 fl, .slice PA n pc]) := Lib.hid (hw0 ▸ Blk.new _ _ _)
  have HB0 : Hid (Below w.heap.size w w0) := Lib.hid (hw0 ▸ below_alloc _ _)
  have HW := Lib.hid hw0
  have HRD := Lib.hid hr
  have HAK := Lib.hid (asked_39 (PA := PA) (pc := pc) (cp := cp) (st := st) (fl := fl) B t x w0 hn (by have := HB0.out.size; omega) (hr.below (HB0.out.mono hB)))
  clear hw0 hr
  have c0 : w0.cell? ⟨w.heap.size, 0, none⟩ = some (.int .i64 cp) := HK0.out.cell 0
  have c1 : w0.cell? ⟨w.heap.size, 1, none⟩ = some (.int .i64 st) := HK0.out.cell 1
  have c2 : w0.cell? ⟨w.heap.size, 2, none⟩ = some (.int .i64 fl) := HK0.out.cell 2
  have c3 : w0.cell? ⟨w.heap.size, 3, none⟩ = some (.slice PA n pc) := HK0.out.cell 3
  have HA0 : Hid (askE cp st fl n lo hi dm ou sp t x = 0 → (chkE cp st fl n lo hi dm ou sp) = 0 ∧ (0 ≤ t ∧ t < n) ∧ 0 ≤ x ∧ x ≤ cp) := Lib.hid ask_zero
  have HG : Hid ((chkE cp st fl n lo hi dm ou sp) = 0 → Good cp fl n lo hi dm ou sp) := Lib.hid good_of
  have HE : Hid (nxE cp st fl n lo hi dm ou sp t x r q = if askE cp st fl n lo hi dm ou sp t x = 0 then (if (ri3 0 r 1099511627776 && ri3 0 q 1099511627776) = true then 0 else 1) else askE cp st fl n lo hi dm ou sp t x) := Lib.hid rfl
  have HBB : Hid (nxB cp st fl n lo hi dm ou sp t x r q = (decide (nxE cp st fl n lo hi dm ou sp t x r q = 0) && (alw dm ou t.toNat x r && nxO cp sp t.toNat x r q))) := Lib.hid rfl
  have HV : Hid (nxV cp st fl n lo hi dm ou sp t x r q = .tuple (nx4 (nxB cp st fl n lo hi dm ou sp t x r q) (nxN cp x r q) (nxS cp x r q) (nxE cp st fl n lo hi dm ou sp t x r q))) := Lib.hid rfl
  generalize nxV cp st fl n lo hi dm ou sp t x r q = V at HV ⊢
  generalize nxB cp st fl n lo hi dm ou sp t x r q = BB at HV HBB
  generalize nxE cp st fl n lo hi dm ou sp t x r q = E at HV HE HBB
  generalize askE cp st fl n lo hi dm ou sp t x = AE at HE HAK HA0
  go_enter Try.func20, Try.ntmps20
  go_upto_region 1 with fail
  rw [← HW.out]
  clear HW
  go_wp2_with fail
  refine HAK.out.mono ?_
  rintro e w1 ⟨rfl, hb⟩
  have HB1 := Lib.hid (HB0.out.trans (hb.mono HB0.out.size))
  have HK1 := Lib.hid (HK0.out.below hb HK0.out.lt)
  clear hb HK0 HB0 HAK c0 c1 c2 c3
  by_cases h1 : ¬ AE = 0
  · have HE2 := Lib.hid (HE.out.trans (if_neg h1))
    have HV2 : Hid (BB = false) := Lib.hid (by rw [HBB.out, HE2.out]; simp [h1])
    have h1d : (AE == 0) = false := by simpa using h1
    go_wp2_with fail
    refine bodyPost_ret (results_tmp4 rfl _ _ _) rfl ?_
    exact ⟨ret_val (by rw [HV.out, HV2.out, HE2.out]; rfl), HB1.out⟩
  have h1 : AE = 0 := by omega
  subst h1
  obtain ⟨a1, ⟨a2, a3⟩, a4, a5⟩ := HA0.out rfl
  have HGG := Lib.hid (HG.out a1)
  have HE2 := Lib.hid (HE.out.trans (if_pos rfl))
  clear HE HG HA0 a1
  obtain ⟨k, rfl⟩ : ∃ k : Nat, t = k := ⟨t.toNat, by omega⟩
  rw [Int.toNat_natCast] at HBB
  go_wp2_with fail
  refine (within_36 _ _ _ _).mono ?_
  rintro e w' ⟨rfl, rfl⟩
  cases h2 : ri3 0 r 1099511627776
  · have HE3 : Hid (E = 1) := Lib.hid (by rw [HE2.out, h2]; rfl)
    have HV2 : Hid (BB = false) := Lib.hid (by rw [HBB.out, HE3.out]; rfl)
    go_wp2_with fail
    refine bodyPost_ret (results_tmp4 rfl _ _ _) rfl ?_
    exact ⟨ret_val (by rw [HV.out, HV2.out, HE3.out]; rfl), HB1.out⟩
  go_wp2_with fail
  refine (within_36 _ _ _ _).mono ?_
  rintro e w' ⟨rfl, rfl⟩
  cases h3 : ri3 0 q 1099511627776
  · have HE3 : Hid (E = 1) := Lib.hid (by rw [HE2.out, h2, h3]; rfl)
    have HV2 : Hid (BB = false) := Lib.hid (by rw [HBB.out, HE3.out]; rfl)
    go_wp2_with fail
    refine bodyPost_ret (results_tmp4 rfl _ _ _) rfl ?_
    exact ⟨ret_val (by rw [HV.out, HV2.out, HE3.out]; rfl), HB1.out⟩
  have HE3 : Hid (E = 0) := Lib.hid (by rw [HE2.out, h2, h3]; rfl)
  have hr3 := ri3_iff.1 h2
  have hq3 := ri3_iff.1 h3
  clear h2 h3 HE2
  have c0 : w1.cell? ⟨w.heap.size, 0, none⟩ = some (.int .i64 cp) := HK1.out.cell 0
  have c1 : w1.cell? ⟨w.heap.size, 1, none⟩ = some (.int .i64 st) := HK1.out.cell 1
  have c2 : w1.cell? ⟨w.heap.size, 2, none⟩ = some (.int .i64 fl) := HK1.out.cell 2
  have c3 : w1.cell? ⟨w.heap.size, 3, none⟩ = some (.slice PA n pc) := HK1.out.cell 3
  have hkn : k < n := by omega
  have HAL := Lib.hid (allowed_43 (PA := PA) (pc := pc) (cp := cp) (st := st) (fl := fl) (lo := lo) (hi := hi) (dm := dm) (ou := ou) (sp := sp) B k x r w1 hkn (by have := HB1.out.size; omega) (HRD.out.below (HB1.out.mono hB)))
  have hal := fun h => alw_pos (dm := dm) (ou := ou) (t := k) (x := x) (r := r) h
  generalize alw dm ou k x r = AL at HAL HBB hal
  go_wp2_with fail
  refine HAL.out.mono ?_
  rintro e w2 ⟨rfl, hb⟩
  have HB2 := Lib.hid (HB1.out.trans (hb.mono HB1.out.size))
  have HK2 := Lib.hid (HK1.out.below hb HK1.out.lt)
  clear hb HB1 HK1 c0 c1 c2 c3 HAL
  cases AL
  · have HV2 : Hid (BB = false) := Lib.hid (by rw [HBB.out]; simp)
    go_wp2_with fail
    refine bodyPost_ret (results_tmp4 rfl _ _ _) rfl ?_
    exact ⟨ret_val (by rw [HV.out, HV2.out, HE3.out]; rfl), HB2.out⟩
  have hal := hal rfl
  have hcp := HGG.out.2.1
  have hdm := (HGG.out.2.2.2 k hkn).2.1
  have c0 : w2.cell? ⟨w.heap.size, 0, none⟩ = some (.int .i64 cp) := HK2.out.cell 0
  have c3 : w2.cell? ⟨w.heap.size, 2 + 1, none⟩ = some (.slice PA n pc) := HK2.out.cell 3
  obtain ⟨b, o, rfl, _, _, _, _, _, p4⟩ := per_at (HRD.out.below (HB2.out.mono hB)) hkn
  clear HRD
  have HBO : Hid (BB = decide (nxS cp x r q ≤ sp k)) := Lib.hid (by rw [HBB.out, HE3.out]; simp [nxO])
  have HN : Hid (nxN cp x r q = min (x - r + q) cp) := Lib.hid rfl
  have HS : Hid (nxS cp x r q = max 0 (x - r + q - cp)) := Lib.hid rfl
  clear HBB
  generalize nxN cp x r q = N at HN HV
  generalize nxS cp x r q = S at HS HV HBO
  generalize sp k = z4 at *
  obtain ⟨y, hy⟩ : ∃ y, y = x - r + q := ⟨_, rfl⟩
  have hy0 : -1099511627776 ≤ y ∧ y ≤ 2199023255552 := by omega
  have hw1 : IntKind.i64.wrap (x - r) = x - r := IntWalk.i64_in _ ⟨by omega, by omega⟩
  have hw2 : IntKind.i64.wrap (x - r + q) = y := by rw [hy]; exact IntWalk.i64_in _ ⟨by omega, by omega⟩
  have hkn' : (k : Int) < n := by omega
  rw [← hy] at HN HS
  clear hy hq3 hr3 hal hdm a4 a5 a2 a3
  by_cases h4 : cp < y
  · have hs : S = y - cp := by rw [HS.out]; omega
    have hnn : N = cp := by rw [HN.out]; omega
    have HNN := Lib.hid hnn
    have hw3 : IntKind.i64.wrap (y - (y - cp)) = cp := by rw [show y - (y - cp) = cp by omega]; exact IntWalk.i64_in _ ⟨by omega, by omega⟩
    subst hs
    clear hnn HS HN
    by_cases h5 : z4 < y - cp
    · have HV2 : Hid (BB = false) := Lib.hid (by rw [HBO.out]; simp; omega)
      go_wp2_with fail
      refine bodyPost_ret (results_tmp4 rfl _ _ _) rfl ?_
      exact ⟨ret_val (by rw [HV.out, HV2.out, HE3.out]; rfl), HB2.out⟩
    · have HV2 : Hid (BB = true) := Lib.hid (by rw [HBO.out]; simp; omega)
      have h5d : decide (z4 < y - cp) = false := by simpa using h5
      go_wp2_with fail
      refine bodyPost_ret (results_tmp4 rfl _ _ _) rfl ?_
      exact ⟨ret_val (by rw [HV.out, HV2.out, HE3.out, HNN.out]; rfl), HB2.out⟩
  · have hs : S = 0 := by rw [HS.out]; omega
    have hnn : N = y := by rw [HN.out]; omega
    subst hs
    subst hnn
    clear HS HN
    by_cases h5 : z4 < 0
    · have HV2 : Hid (BB = false) := Lib.hid (by rw [HBO.out]; simp; omega)
      go_wp2_with fail
      refine bodyPost_ret (results_tmp4 rfl _ _ _) rfl ?_
      exact ⟨ret_val (by rw [HV.out, HV2.out, HE3.out]; rfl), HB2.out⟩
    · have HV2 : Hid (BB = true) := Lib.hid (by rw [HBO.out]; simp; omega)
      have h5d : decide (z4 < 0) = false := by simpa using h5
      go_wp2_with fail
      refine bodyPost_ret (results_tmp4 rfl _ _ _) rfl ?_
      exact ⟨ret_val (by rw [HV.out, HV2.out, HE3.out]; simp [nx4]), HB2.out⟩
end Go.Proofs.Ytnmocdfogdcliaa
