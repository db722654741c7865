/- Contracts of Set and reason of the reference. -/
import Derived.Test.YtbojjhdcmogjdaaBasic
namespace Go.Proofs.Ytbojjhdcmogjdaa
open Go.RowKit

set_option maxRecDepth 100000 in
set_option maxHeartbeats 4000000 in
theorem Set_31 (SA CA A : Option Addr) (sn sc n cc m c B : Nat) (f : Nat → Int) (w : World) (hs : sn ≤ 1000) (hm : m ≤ 1000) (hB : B ≤ w.heap.size) (hr : Rd w B A m (fun j => .int .i64 (f j))) :
    Calls Try.prog 31 #[.agg #[.slice SA sn sc, .slice CA n cc], .slice A m c] w fun e w' => e = .returned (.bool (okS sn f m)) ∧ Below w.heap.size w w' := by
  have HR := Lib.hid hr
  clear hr
  have hs' : (sn : Int) ≤ 1000 := by omega
  have hm' : (m : Int) ≤ 1000 := by omega
  go_enter Try.func31, Try.ntmps31
  go_wp2_with fail
  obtain ⟨w0, hw0⟩ : ∃ zz, zz = w.alloc (.cells #[.slice SA sn sc, .slice CA n cc] 25) := ⟨_, rfl⟩
  have HK0 : Hid (Blk w0 w.heap.size 25 #[.slice SA sn sc, .slice CA n cc]) := Lib.hid (hw0 ▸ Blk.new _ _ _)
  have HB0 : Hid (Below w.heap.size w w0) := Lib.hid (hw0 ▸ below_alloc _ _)
  rw [← hw0]
  clear hw0
  go_loopw [5] (fun i wr => ∃ k : Nat, k ≤ m ∧ i = .int .i64 k ∧ Hid (okS sn f k = true) ∧ ∃ q, wr = w0.drewN q) (fun i _ => m - (intOf i).toNat)
  case atStart => exact ⟨0, Nat.zero_le _, rfl, Lib.hid rfl, 0, rfl⟩
  case round =>
    obtain ⟨k, hk, rfl, HK, q, rfl⟩ := hrel
    have HQ : Hid (∀ r, ∃ t, (w0.drewN q).drewN r = w0.drewN t) := Lib.hid fun r => ⟨q + r, by simp [World.drewN_drewN]⟩
    have HKK := Lib.hid (HK0.out.drewN q)
    have HBB := Lib.hid (below_quiet HB0.out ⟨q, rfl⟩)
    generalize w0.drewN q = w1 at *
    have hs1 := HKK.out.lt
    by_cases hlt : k < m
    · have hlt' : (k : Int) < m := by omega
      obtain ⟨b, o, e, _, cs⟩ := (HR.out.below (HBB.out.mono hB)) (by omega)
      have ck := cs k hlt
      subst e
      have cb : w1.cell? ⟨w.heap.size, 0, none⟩ = some (.slice SA sn sc) := HKK.out.cell 0
      have hw1 : IntKind.i64.wrap ((sn : Int) - 1) = (sn : Int) - 1 := IntWalk.i64_in _ ⟨by omega, by omega⟩
      go_upto_region 4 with fail
      cases h1 : (decide (0 ≤ f k) && decide (f k ≤ (sn : Int) - 1))
      · have HV : Hid (okS sn f m = false) := Lib.hid (okS_bad (by
          rw [Bool.eq_false_iff, Ne, fitB_iff]
          rintro ⟨⟨h2, h3⟩, _⟩
          rw [Bool.and_eq_false_iff, decide_eq_false_iff_not, decide_eq_false_iff_not] at h1
          omega) m hlt)
        have HW : Hid (∀ q, Calls Try.prog 30 #[.int .i64 (f k), .int .i64 0, .int .i64 ((sn : Int) - 1)] (w1.drewN q) fun e w' => e = .returned (.bool false) ∧ w1.drewN q = w') := Lib.hid fun q => h1 ▸ within_30 _ _ _ _
        clear h1 cs
        go_quiet ((go_at_call 30; exact quiet_l (HW.out _)))
        go_wp2_with fail
        go_ret
        exact ⟨ret_bool HV.out.symm, below_quiet HBB.out ⟨_, rfl⟩⟩
      · have HW : Hid (∀ q, Calls Try.prog 30 #[.int .i64 (f k), .int .i64 0, .int .i64 ((sn : Int) - 1)] (w1.drewN q) fun e w' => e = .returned (.bool true) ∧ w1.drewN q = w') := Lib.hid fun q => h1 ▸ within_30 _ _ _ _
        rw [Bool.and_eq_true, decide_eq_true_eq, decide_eq_true_eq] at h1
        obtain ⟨h2, h3⟩ := h1
        cases k with
        | zero =>
          have HV : Hid (okS sn f (0 + 1) = true) := Lib.hid (okS_of _ fun j hj => by
            obtain rfl : j = 0 := by omega
            exact ⟨⟨h2, by omega⟩, .inl rfl⟩)
          rw [Nat.add_zero] at ck
          clear cs
          go_quiet ((go_at_call 30; exact quiet_l (HW.out _)))
          go_wp2_with fail
          go_roundw
          case rel => exact ⟨0 + 1, by omega, by go_num, HV, HQ.out _⟩
          case measure => simp [intOf]; omega
        | succ j =>
          have cj := cs j (by omega)
          clear cs
          have hwj : IntKind.i64.wrap (((j + 1 : Nat) : Int) - 1) = j := by rw [show ((j + 1 : Nat) : Int) - 1 = j by omega]; exact IntWalk.i64_in _ ⟨by omega, by omega⟩
          by_cases h4 : f (j + 1) ≤ f j
          · have HV : Hid (okS sn f m = false) := Lib.hid (okS_bad (k := j + 1) (by
              rw [Bool.eq_false_iff, Ne, fitB_iff]
              rintro ⟨_, h5 | h5⟩
              · omega
              · rw [Nat.add_sub_cancel] at h5; omega) m hlt)
            have hd : decide (f (j + 1) ≤ f j) = true := by simpa using h4
            clear h4
            go_quiet ((go_at_call 30; exact quiet_l (HW.out _)))
            go_wp2_with fail
            go_ret
            exact ⟨ret_bool HV.out.symm, below_quiet HBB.out ⟨_, rfl⟩⟩
          · have HV : Hid (okS sn f (j + 1 + 1) = true) := Lib.hid (by
              rw [okS, HK.out, Bool.true_and, fitB_iff]
              exact ⟨⟨h2, by omega⟩, .inr (by rw [Nat.add_sub_cancel]; omega)⟩)
            have hd : decide (f (j + 1) ≤ f j) = false := by simpa using h4
            clear h4
            go_quiet ((go_at_call 30; exact quiet_l (HW.out _)))
            go_wp2_with fail
            go_roundw
            case rel => exact ⟨j + 1 + 1, by omega, by go_num, HV, HQ.out _⟩
            case measure => simp [intOf]; omega
    · obtain rfl : k = m := by omega
      go_wp2_with fail
      go_ret
      exact ⟨ret_bool HK.out.symm, HBB.out⟩

set_option maxRecDepth 100000 in
set_option maxHeartbeats 4000000 in
theorem reason_32 (SA CA FA RA : Option Addr) (sn sc n cc fn fc rn rc B : Nat) (S F R : Nat → Int) (x : Int) (w : World) (hs : sn ≤ 1000) (hf : fn ≤ 1000) (hm : rn ≤ 1000) (hB : B ≤ w.heap.size)
    (hS : Rd w B SA sn (fun j => .int .i64 (S j))) (hF : Rd w B FA fn (fun j => .int .i64 (F j))) (hR : Rd w B RA rn (fun j => .int .i64 (R j))) :
    Calls Try.prog 32 #[.agg #[.slice SA sn sc, .slice CA n cc], .slice FA fn fc, .slice RA rn rc, .int .i64 x] w fun e w' => e = .returned (.bool (reaB S sn F fn R rn x)) ∧ Below w.heap.size w w' := by
  have HS := Lib.hid hS
  have HF := Lib.hid hF
  have HR := Lib.hid hR
  clear hS hF hR
  have hm' : (rn : Int) ≤ 1000 := by omega
  go_enter Try.func32, Try.ntmps32
  go_wp2_with fail
  obtain ⟨w0, hw0⟩ : ∃ zz, zz = w.alloc (.cells #[.slice SA sn sc, .slice CA n cc] 25) := ⟨_, rfl⟩
  have HK0 : Hid (Blk w0 w.heap.size 25 #[.slice SA sn sc, .slice CA n cc]) := Lib.hid (hw0 ▸ Blk.new _ _ _)
  have HB0 : Hid (Below w.heap.size w w0) := Lib.hid (hw0 ▸ below_alloc _ _)
  rw [← hw0]
  clear hw0
  have cb0 : w0.cell? ⟨w.heap.size, 0, none⟩ = some (.slice SA sn sc) := HK0.out.cell 0
  have cb1 : w0.cell? ⟨w.heap.size, 1, none⟩ = some (.slice CA n cc) := HK0.out.cell 1
  have hs0 := HK0.out.lt
  have hz0 := HB0.out.size
  go_wp2_with fail
  refine (Set_31 SA CA RA sn sc n cc rn rc B R _ hs hm (by omega) (HR.out.below (HB0.out.mono hB))).mono ?_
  rintro e w1 ⟨rfl, hb⟩
  have HB1 := Lib.hid (HB0.out.trans (hb.mono hz0))
  have HK1 := Lib.hid (HK0.out.below hb hs0)
  clear hb HB0 HK0 cb0 cb1
  have hz1 := HB1.out.size
  cases h1 : okS sn R rn
  · have HV : Hid (reaB S sn F fn R rn x = false) := Lib.hid (by rw [reaB, h1]; rfl)
    clear h1
    go_wp2_with fail
    go_ret
    exact ⟨ret_bool HV.out.symm, HB1.out⟩
  go_wp2_with fail
  refine (All_24 RA FA rn rc fn fc B R F w1 (by omega) (by omega) (HR.out.below (HB1.out.mono hB)) (HF.out.below (HB1.out.mono hB))).mono ?_
  rintro e w' ⟨rfl, rfl⟩
  cases h2 : allB R F fn rn
  · have HV : Hid (reaB S sn F fn R rn x = false) := Lib.hid (by rw [reaB, h1, h2]; rfl)
    clear h1 h2
    go_wp2_with fail
    go_ret
    exact ⟨ret_bool HV.out.symm, HB1.out⟩
  have HV : Hid (reaB S sn F fn R rn x = sideB S R x rn) := Lib.hid (by rw [reaB, h1, h2]; rfl)
  have HO := Lib.hid (okS_at rn h1)
  clear h1 h2
  go_wp2_with fail
  go_loopw [10] (fun i wr => ∃ k : Nat, k ≤ rn ∧ i = .int .i64 k ∧ Hid (sideB S R x k = true) ∧ ∃ q, wr = w1.drewN q) (fun i _ => rn - (intOf i).toNat)
  case atStart => exact ⟨0, Nat.zero_le _, rfl, Lib.hid rfl, 0, rfl⟩
  case round =>
    obtain ⟨k, hk, rfl, HK, q, rfl⟩ := hrel
    have HQ : Hid (∀ r, ∃ t, (w1.drewN q).drewN r = w1.drewN t) := Lib.hid fun r => ⟨q + r, by simp [World.drewN_drewN]⟩
    have HKK := Lib.hid (HK1.out.drewN q)
    have HBB := Lib.hid (below_quiet HB1.out ⟨q, rfl⟩)
    generalize w1.drewN q = w2 at *
    by_cases hlt : k < rn
    · have hlt' : (k : Int) < rn := by omega
      obtain ⟨⟨r0, r1⟩, _⟩ := HO.out k hlt
      obtain ⟨b, o, e, _, cs⟩ := (HR.out.below (HBB.out.mono hB)) (by omega)
      have ck := cs k hlt
      subst e
      obtain ⟨b2, o2, e2, _, cs2⟩ := (HS.out.below (HBB.out.mono hB)) (by omega)
      have ck2 : w2.cell? ⟨b2, o2 + (R k).toNat, none⟩ = some (.int .i64 (S (R k).toNat)) := cs2 (R k).toNat (by omega)
      subst e2
      clear cs cs2
      have cb : w2.cell? ⟨w.heap.size, 0, none⟩ = some (.slice (some ⟨b2, o2, none⟩) sn sc) := HKK.out.cell 0
      obtain ⟨y, hy⟩ : ∃ y, y = S (R k).toNat := ⟨_, rfl⟩
      rw [← hy] at ck2
      by_cases h3 : y = x
      · have HV2 : Hid (sideB S R x (k + 1) = true) := Lib.hid (by rw [sideB, HK.out, ← hy, h3]; simp)
        subst h3
        clear hy
        go_upto_region 7 with fail
        go_quiet (fail)
        go_wp2_with fail
        go_roundw
        case rel => exact ⟨k + 1, by omega, by go_num, HV2, HQ.out _⟩
        case measure => simp [intOf]; omega
      · have HV2 : Hid (sideB S R x rn = false) := Lib.hid (sideB_bad (by rw [← hy]; exact h3) rn hlt)
        have h3' : (y != x) = true := by simpa using h3
        clear hy h3
        go_upto_region 7 with fail
        go_quiet (fail)
        go_wp2_with fail
        go_ret
        exact ⟨ret_bool (by rw [HV.out, HV2.out]), below_quiet HBB.out ⟨_, rfl⟩⟩
    · obtain rfl : k = rn := by omega
      go_wp2_with fail
      go_ret
      exact ⟨ret_bool (by rw [HV.out, HK.out]), HBB.out⟩

/-- do two cases clash: as bits -/
def claB (x y : Int) (f r g q : Nat) : Bool := (!decide (x = y) && subB r g) && subB q f
set_option maxRecDepth 100000 in
theorem clash_28 (x y : Int) (f r g q : Nat) (w : World) (hf : f < 18446744073709551616) (hr : r < 18446744073709551616) (hg : g < 18446744073709551616) (hq : q < 18446744073709551616) :
    Calls Try.prog 28 #[.agg #[.int .i64 x, .int .u64 f, .int .u64 r], .agg #[.int .i64 y, .int .u64 g, .int .u64 q]] w fun e w' => e = .returned (.bool (claB x y f r g q)) ∧ Below w.heap.size w w' := by
  have H1 : Hid (∀ w, Calls Try.prog 35 #[.int .u64 r, .int .u64 g] w fun e w' => e = .returned (.bool (subB r g)) ∧ w = w') := Lib.hid fun w => in_35 r g w hr hg
  have H2 : Hid (∀ w, Calls Try.prog 35 #[.int .u64 q, .int .u64 f] w fun e w' => e = .returned (.bool (subB q f)) ∧ w = w') := Lib.hid fun w => in_35 q f w hq hf
  clear hf hr hg hq
  go_enter Try.func28, Try.ntmps28
  by_cases h : x = y
  · have HV : Hid (claB x y f r g q = false) := Lib.hid (by simp [claB, h])
    subst h
    go_wp2_with fail
    go_ret
    exact ⟨ret_bool HV.out.symm, by (repeat (first | exact Below.refl _ _ | exact below_alloc _ _ | refine Below.alloc ?_ (by simp; omega) _ | refine Below.alloc ?_ (by simp) _))⟩
  · have HV : Hid (claB x y f r g q = (subB r g && subB q f)) := Lib.hid (by simp [claB, h])
    have h' : (x != y) = true := by simpa using h
    clear h
    go_wp2_with fail
    refine (H1.out _).mono ?_
    rintro e w' ⟨rfl, rfl⟩
    cases h1 : subB r g
    · go_wp2_with fail
      go_ret
      exact ⟨ret_bool (by rw [HV.out, h1]; rfl), by (repeat (first | exact Below.refl _ _ | exact below_alloc _ _ | refine Below.alloc ?_ (by simp; omega) _ | refine Below.alloc ?_ (by simp) _))⟩
    · go_wp2_with fail
      refine (H2.out _).mono ?_
      rintro e w' ⟨rfl, rfl⟩
      go_wp2_with fail
      go_ret
      exact ⟨ret_bool (by rw [HV.out, h1]; rfl), by (repeat (first | exact Below.refl _ _ | exact below_alloc _ _ | refine Below.alloc ?_ (by simp; omega) _ | refine Below.alloc ?_ (by simp) _))⟩

/-- what a case's facts lack of the factors of a set that favour its loser -/
def misN (a b f : Nat) : Nat := (a &&& b) &&& (18446744073709551615 - f)
/-- the factors that favour the other side -/
def othN (f0 f1 : Nat) (x : Int) : Nat := if x = 0 then f1 else f0
set_option maxRecDepth 100000 in
set_option maxHeartbeats 4000000 in
theorem missing_36 (f0 f1 : Nat) (A : Option Addr) (n c : Nat) (x : Int) (f r a : Nat) (w : World) (hx : x = 0 ∨ x = 1) (h0 : f0 < 18446744073709551616) (h1 : f1 < 18446744073709551616) (hf : f < 18446744073709551616) (ha : a < 18446744073709551616) :
    Calls Try.prog 36 #[.agg #[.int .u64 f0, .int .u64 f1, .slice A n c], .agg #[.int .i64 x, .int .u64 f, .int .u64 r], .int .u64 a] w fun e w' => e = .returned (.int .u64 (misN a (othN f0 f1 x) f)) ∧ Below w.heap.size w w' := by
  obtain ⟨y, hy⟩ : ∃ y, y = othN f0 f1 x := ⟨_, rfl⟩
  have hy1 : y < 18446744073709551616 := by rw [hy]; unfold othN; split <;> assumption
  have e1 := u64_and_nat a y ha hy1
  have e2 := u64_andNot_nat (a &&& y) f (Nat.lt_of_le_of_lt Nat.and_le_left ha) hf
  have HV : Hid (misN a (othN f0 f1 x) f = (a &&& y) &&& (18446744073709551615 - f)) := Lib.hid (by rw [misN, ← hy])
  generalize a &&& y = z at e1 e2 HV
  generalize z &&& (18446744073709551615 - f) = v at e2 HV
  go_enter Try.func36, Try.ntmps36
  go_upto_region 1 with fail
  obtain ⟨w0, hw0⟩ : ∃ zz, zz = (w.alloc (.cells #[.int .u64 f0, .int .u64 f1, .slice A n c] 52)).alloc (.cells #[.int .i64 x, .int .u64 f, .int .u64 r] 59) := ⟨_, rfl⟩
  have HK : Blk w0 w.heap.size 52 #[.int .u64 f0, .int .u64 f1, .slice A n c] := hw0 ▸ (Blk.new _ _ _).alloc _
  have HD : Blk w0 (w.heap.size + 1) 59 #[.int .i64 x, .int .u64 f, .int .u64 r] := hw0 ▸ (by have := Blk.new (w.alloc (.cells #[.int .u64 f0, .int .u64 f1, .slice A n c] 52)) 59 #[.int .i64 x, .int .u64 f, .int .u64 r]; rwa [World.size_alloc] at this)
  have HB0 : Hid (Below w.heap.size w w0) := Lib.hid (by rw [hw0]; (repeat (first | exact Below.refl _ _ | exact below_alloc _ _ | refine Below.alloc ?_ (by simp; omega) _ | refine Below.alloc ?_ (by simp) _)))
  rw [← hw0]
  clear hw0
  have c0 : w0.cell? ⟨w.heap.size, 0, none⟩ = some (.int .u64 f0) := HK.cell 0
  have c1 : w0.cell? ⟨w.heap.size, 1, none⟩ = some (.int .u64 f1) := HK.cell 1
  have d0 : w0.cell? ⟨w.heap.size + 1, 0, none⟩ = some (.int .i64 x) := HD.cell 0
  have d1 : w0.cell? ⟨w.heap.size + 1, 1, none⟩ = some (.int .u64 f) := HD.cell 1
  clear HK HD
  rcases hx with rfl | rfl
  · obtain rfl : y = f1 := hy
    go_quiet (fail)
    go_wp2_with fail
    go_ret
    exact ⟨ret_int (by rw [HV.out]), below_quiet HB0.out ⟨_, rfl⟩⟩
  · obtain rfl : y = f0 := hy
    go_quiet (fail)
    go_wp2_with fail
    go_ret
    exact ⟨ret_int (by rw [HV.out]), below_quiet HB0.out ⟨_, rfl⟩⟩
end Go.Proofs.Ytbojjhdcmogjdaa
