/- Contracts of the reference's asked and SameRanges. -/
import Derived.Test.YtnmocdfogdcliaaRefBefore2
namespace Go.Proofs.Ytnmocdfogdcliaa
open Go.RowKit

/-- the cells of ranges: two each -/
def rsc (f : Nat → Int × Int) (j : Nat) : Value := if j % 2 = 0 then .int .i64 (f (j / 2)).1 else .int .i64 (f (j / 2)).2
theorem rsc_0 (f : Nat → Int × Int) (j : Nat) : rsc f (j * 2) = .int .i64 (f j).1 := by
  unfold rsc; rw [if_pos (by omega), show j * 2 / 2 = j by omega]
theorem rsc_1 (f : Nat → Int × Int) (j : Nat) : rsc f (j * 2 + 1) = .int .i64 (f j).2 := by
  unfold rsc; rw [if_neg (by omega), show (j * 2 + 1) / 2 = j by omega]
/-- a range -/
theorem rng_at {w : World} {B : Nat} {A : Option Addr} {n : Nat} {f : Nat → Int × Int} (h : Rd w B A (n * 2) (rsc f)) {j : Nat} (hj : j < n) : ∃ b off, A = some ⟨b, off, none⟩ ∧ b < B ∧ w.cell? ⟨b, off + j * 2, none⟩ = some (.int .i64 (f j).1) ∧ w.cell? ⟨b, off + j * 2 + 1, none⟩ = some (.int .i64 (f j).2) := by
  obtain ⟨b, off, e, hb, hc⟩ := h (by omega)
  refine ⟨b, off, e, hb, ?_, ?_⟩
  · rw [hc (j * 2) (by omega), rsc_0]
  · rw [Nat.add_assoc, hc (j * 2 + 1) (by omega), rsc_1]

/-- the error of what was asked -/
def askE (cp st fl : Int) (n : Nat) (lo hi dm ou sp : Nat → Int) (t x : Int) : Int :=
  if ¬ chkE cp st fl n lo hi dm ou sp = 0 then chkE cp st fl n lo hi dm ou sp else if t < 0 ∨ (n : Int) ≤ t then 1 else if ri3 0 x cp = false then 1 else 0

set_option maxRecDepth 100000 in
set_option maxHeartbeats 4000000 in
theorem same_16 (A1 A2 : Option Addr) (n m1 m2 B : Nat) (f : Nat → Int × Int) (w : World) (hn : n ≤ 1000) (h1 : Rd w B A1 (n * 2) (rsc f)) (h2 : Rd w B A2 (n * 2) (rsc f)) :
    Calls Try.prog 16 #[.slice A1 n m1, .slice A2 n m2] w fun e w' => e = .returned (.bool true) ∧ ∃ k, w' = w.drewN k := by
  have H1 := Lib.hid h1
  have H2 := Lib.hid h2
  clear h1 h2
  go_enter Try.func16, Try.ntmps16
  go_wp2_with fail
  go_loopw [5] (fun i wr => ∃ k : Nat, k ≤ n ∧ i = .int .i64 k ∧ ∃ m, wr = w.drewN m) (fun i _ => n - (intOf i).toNat)
  case atStart => exact ⟨0, Nat.zero_le _, rfl, 0, rfl⟩
  case round =>
    obtain ⟨k, hkn, rfl, m, rfl⟩ := hrel
    have HQ : Hid (∀ r, ∃ t, (w.drewN m).drewN r = w.drewN t) := Lib.hid fun r => ⟨m + r, by simp [World.drewN_drewN]⟩
    have HX1 := Lib.hid (Rd.drewN H1.out m)
    have HX2 := Lib.hid (Rd.drewN H2.out m)
    generalize w.drewN m = w1 at *
    by_cases hlt : k < n
    · have hlt' : (k : Int) < n := by omega
      obtain ⟨b, o, rfl, _, p0, p1⟩ := rng_at HX1.out hlt
      obtain ⟨c, d, rfl, _, q0, q1⟩ := rng_at HX2.out hlt
      generalize (f k).1 = z1 at p0 q0
      generalize (f k).2 = z2 at p1 q1
      go_upto_region 6 with fail
      go_quiet (fail)
      go_wp2_with fail
      go_roundw
      case rel => exact ⟨k + 1, by omega, by go_num, HQ.out _⟩
      case measure => simp [intOf]; omega
    · go_wp2_with fail
      go_ret
      exact ⟨rfl, HQ.out 0⟩

set_option maxRecDepth 100000 in
set_option maxHeartbeats 8000000 in
theorem asked_39 {PA : Option Addr} {n pc : Nat} {cp st fl : Int} {lo hi dm ou sp : Nat → Int} (B : Nat) (t x : Int) (w : World) (hn : n ≤ 9223372036854775807) (hB : B ≤ w.heap.size) (hr : Rd w B PA (n * 5) (psc lo hi dm ou sp)) :
    Calls Try.prog 39 #[(.agg #[.int .i64 cp, .int .i64 st, .int .i64 fl, .slice PA n pc]), .int .i64 t, .int .i64 x] w fun e w' => e = .returned (.int .i64 (askE cp st fl n lo hi dm ou sp t x)) ∧ Below w.heap.size w w' := by
  obtain ⟨w0, hw0⟩ : ∃ zz, zz = w.alloc (.cells #[.int .i64 cp, .int .i64 st, .int .i64 fl, .slice PA n pc] 26) := ⟨_, rfl⟩
  have HK0 : Hid (Blk w0 w.heap.size 26 #[.int .i64 cp, .int .i64 st, .int .i64 fl, .slice PA n pc]) := Lib.hid (hw0 ▸ Blk.new _ _ _)
  have HB0 : Hid (Below w.heap.size w w0) := Lib.hid (hw0 ▸ below_alloc _ _)
  have HW := Lib.hid hw0
  have HCK := Lib.hid (ref_Check_15 (PA := PA) (pc := pc) (cp := cp) (st := st) (fl := fl) B w0 hn (by have := HB0.out.size; omega) (hr.below (HB0.out.mono hB)))
  clear hw0 hr
  have c0 : w0.cell? ⟨w.heap.size, 0, none⟩ = some (.int .i64 cp) := HK0.out.cell 0
  have c1 : w0.cell? ⟨w.heap.size, 1, none⟩ = some (.int .i64 st) := HK0.out.cell 1
  have c2 : w0.cell? ⟨w.heap.size, 2, none⟩ = some (.int .i64 fl) := HK0.out.cell 2
  have c3 : w0.cell? ⟨w.heap.size, 2 + 1, none⟩ = some (.slice PA n pc) := HK0.out.cell 3
  have c3' : w0.cell? ⟨w.heap.size, 3, none⟩ = some (.slice PA n pc) := HK0.out.cell 3
  have HE : Hid (askE cp st fl n lo hi dm ou sp t x = if ¬ (chkE cp st fl n lo hi dm ou sp) = 0 then (chkE cp st fl n lo hi dm ou sp) else if t < 0 ∨ (n : Int) ≤ t then 1 else if ri3 0 x cp = false then 1 else 0) := Lib.hid rfl
  generalize askE cp st fl n lo hi dm ou sp t x = E at HE ⊢
  generalize (chkE cp st fl n lo hi dm ou sp) = CE at HE HCK
  go_enter Try.func39, Try.ntmps39
  go_upto_region 1 with fail
  rw [← HW.out]
  clear HW
  go_wp2_with fail
  refine HCK.out.mono ?_
  rintro e w1 ⟨rfl, hb⟩
  have HB1 := Lib.hid (HB0.out.trans (hb.mono HB0.out.size))
  have HK1 := Lib.hid (HK0.out.below hb HK0.out.lt)
  clear hb HK0 HB0 HCK c0 c1 c2 c3 c3'
  have c0 : w1.cell? ⟨w.heap.size, 0, none⟩ = some (.int .i64 cp) := HK1.out.cell 0
  have c3 : w1.cell? ⟨w.heap.size, 2 + 1, none⟩ = some (.slice PA n pc) := HK1.out.cell 3
  by_cases h1 : CE = 0
  · subst h1
    have HE2 := Lib.hid (HE.out.trans (if_neg (by simp)))
    clear HE
    by_cases h2 : t < 0
    · have HE3 := Lib.hid (HE2.out.trans (if_pos (.inl h2)))
      go_wp2_with fail
      go_ret
      exact ⟨ret_int HE3.out.symm, HB1.out⟩
    by_cases h3 : (n : Int) ≤ t
    · have HE3 := Lib.hid (HE2.out.trans (if_pos (.inr h3)))
      go_wp2_with fail
      go_ret
      exact ⟨ret_int HE3.out.symm, HB1.out⟩
    have HE3 := Lib.hid (HE2.out.trans (if_neg (by omega)))
    have h2d : decide (t < 0) = false := by simpa using h2
    have h3d : decide ((n : Int) ≤ t) = false := by simpa using h3
    go_wp2_with fail
    refine (within_36 _ _ _ _).mono ?_
    rintro e w' ⟨rfl, rfl⟩
    cases h4 : ri3 0 x cp
    · have HE4 := Lib.hid (HE3.out.trans (if_pos h4))
      go_wp2_with fail
      go_ret
      exact ⟨ret_int HE4.out.symm, HB1.out⟩
    · have HE4 := Lib.hid (HE3.out.trans (if_neg (by rw [h4]; simp)))
      go_wp2_with fail
      go_ret
      exact ⟨ret_int HE4.out.symm, HB1.out⟩
  · have HE2 := Lib.hid (HE.out.trans (if_pos h1))
    have h1d : (CE == 0) = false := by simpa using h1
    go_wp2_with fail
    go_ret
    exact ⟨ret_int HE2.out.symm, HB1.out⟩
end Go.Proofs.Ytnmocdfogdcliaa
