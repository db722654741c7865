/- Contract of calibrate.Widen. -/
import Derived.Test.YtonkjnkokikpgaaGreatKeeps
import Derived.Test.YtonkjnkokikpgaaGreatApart
import Derived.Test.YtonkjnkokikpgaaGreatRobust
import Derived.Test.YtonkjnkokikpgaaGreatFails
import Derived.OwnWalk
namespace Go.Proofs.YtonkjnkokikpgaaGreat
open Go.RowKit

/-- a range widened -/
def wdF (f : Nat → Int × Int) (m : Int) (j : Nat) : Int × Int := (max 0 ((f j).1 - m), min 1099511627776 ((f j).2 + m))
/-- the cells of k ranges -/
def rowR (g : Nat → Int × Int) (k : Nat) : List Value := (List.range (k * 2)).map (rsc g)
theorem rowR_succ (g : Nat → Int × Int) (k : Nat) : rowR g k ++ [.int .i64 (g k).1, .int .i64 (g k).2] = rowR g (k + 1) := by
  unfold rowR
  rw [show (k + 1) * 2 = k * 2 + 1 + 1 by omega, List.range_succ, List.range_succ]
  simp [rsc_0, rsc_1]
theorem rowR_rd {w : World} {base k c : Nat} {A : Option Addr} {g : Nat → Int × Int} (h : w.ownsRow base 53 2 (.slice A k c) k (rowR g k)) : Rd w w.heap.size A (k * 2) (rsc g) :=
  Rd.of_own h fun j hj => by simp [rowR, hj]
/-- what Widen hands back -/
def WidR (H n : Nat) (f : Nat → Int × Int) (m : Int) (e : Ending) (w' : World) : Prop :=
  ∃ (D : Option Addr) (L dc : Nat) (E : Int), e = .returned (.tuple #[.slice D L dc, .int .i64 E]) ∧ (E = 0 ↔ rgB n f = true ∧ 0 ≤ m ∧ m ≤ 1099511627776) ∧ (E = 0 → L = n) ∧ L ≤ 16 ∧ w'.ownsRow H 53 2 (.slice D L dc) L (rowR (wdF f m) L)

set_option maxRecDepth 100000 in
set_option maxHeartbeats 4000000 in
theorem Widen_17 (A : Option Addr) (n c B : Nat) (f : Nat → Int × Int) (m : Int) (w : World) (hn : n ≤ 9223372036854775807) (hB : B ≤ w.heap.size) (hr : Rd w B A (n * 2) (rsc f)) :
    Calls Tryz.prog 17 #[.slice A n c, .int .i64 m] w fun e w' => WidR w.heap.size n f m e w' ∧ Below w.heap.size w w' := by
  have HRT := Lib.hid (right_42 A n c B f w hn hB hr)
  have HR := Lib.hid hr
  have HNIL : Hid (∀ (E : Int) (w' : World), E ≠ 0 → ¬ (rgB n f = true ∧ 0 ≤ m ∧ m ≤ 1099511627776) → WidR w.heap.size n f m (.returned (.tuple #[.slice none 0 0, .int .i64 E])) w') := Lib.hid fun E w' hE hG =>
    ⟨none, 0, 0, E, rfl, ⟨fun h => absurd h hE, fun h => absurd h hG⟩, fun h => absurd h hE, by omega, World.ownsRow_nil _ _ _ _⟩
  clear hr
  go_enter Tryz.func17, Tryz.ntmps17
  by_cases h1 : 16 < (n : Int)
  · have h1d : decide (16 < (n : Int)) = true := by simpa using h1
    have HE : Hid (¬ (rgB n f = true ∧ 0 ≤ m ∧ m ≤ 1099511627776)) := Lib.hid fun h => by have := (rgB_iff.1 h.1).1; omega
    clear h1
    go_wp2_with fail
    refine bodyPost_ret (results_tmp2 rfl _ _ _) rfl ?_
    exact ⟨HNIL.out 2 _ (by decide) HE.out, Below.refl _ _⟩
  have h1d : decide (16 < (n : Int)) = false := by simpa using h1
  have hn16 : n ≤ 16 := by omega
  clear h1
  go_wp2_with fail
  refine HRT.out.mono ?_
  rintro e w1 ⟨rfl, hb⟩
  have HB1 := Lib.hid hb
  clear hb HRT
  cases hq : rgB n f
  · have HE : Hid (¬ (rgB n f = true ∧ 0 ≤ m ∧ m ≤ 1099511627776)) := Lib.hid fun h => by rw [hq] at h; cases h.1
    clear hq
    go_wp2_with fail
    refine bodyPost_ret (results_tmp2 rfl _ _ _) rfl ?_
    exact ⟨HNIL.out 370 _ (by decide) HE.out, HB1.out⟩
  have HQ := Lib.hid hq
  clear hq
  go_wp2_with fail
  refine (in_43 _ _ _ _).mono ?_
  rintro e u ⟨rfl, rfl⟩
  cases hq2 : ri3 0 m 1099511627776
  · have HE : Hid (¬ (rgB n f = true ∧ 0 ≤ m ∧ m ≤ 1099511627776)) := Lib.hid fun h => by rw [ri3_iff.2 h.2] at hq2; cases hq2
    clear hq2
    go_wp2_with fail
    refine bodyPost_ret (results_tmp2 rfl _ _ _) rfl ?_
    exact ⟨HNIL.out 1 _ (by decide) HE.out, HB1.out⟩
  obtain ⟨hm1, hm2⟩ := ri3_iff.1 hq2
  have HM := Lib.hid (And.intro hm1 hm2)
  clear hq2 HNIL
  obtain ⟨i0, hif, hz0, hz1, hz2⟩ := info_parts info48
  have hzw := HB1.out.size
  go_wp2_with fail
  go_loopw [4, 22] (fun s4 i wr => ∃ k : Nat, k ≤ n ∧ i = .int .i64 k ∧ wr.ownsRow w1.heap.size 53 2 s4 k (rowR (wdF f m) k) ∧ Below w1.heap.size w1 wr) (fun _ i _ => n - (intOf i).toNat)
  case atStart => exact ⟨0, Nat.zero_le _, rfl, World.ownsRow_nil _ _ _ _, Below.refl _ _⟩
  case round =>
    obtain ⟨k, hk, rfl, ho, hb⟩ := hrel
    have HO := Lib.hid ho
    have HL := Lib.hid hb
    have HBr := Lib.hid (HB1.out.trans (hb.mono hzw))
    have hzr := hb.size
    clear ho hb
    by_cases hlt : ¬ k < n
    · have hlt' : ¬ (k : Int) < (n : Int) := by omega
      have hkn : k = n := by omega
      subst hkn
      obtain ⟨D, dc, rfl⟩ := own_form HO.out
      go_wp2_with fail
      refine bodyPost_ret (results_tmp2 rfl _ _ _) rfl ?_
      exact ⟨⟨D, k, dc, 0, rfl, ⟨fun _ => ⟨HQ.out, HM.out⟩, fun _ => rfl⟩, fun _ => rfl, hn16, own_weaken HO.out hzw⟩, HBr.out⟩
    have hlt : k < n := by omega
    have hlt' : (k : Int) < (n : Int) := by omega
    obtain ⟨g1, g2, g3⟩ := (rgB_iff.1 HQ.out).2 k hlt
    obtain ⟨rb, ro, rfl, _, r0, r1⟩ := rng_at (HR.out.below (HBr.out.mono hB)) hlt
    have HW : Hid (wdF f m k = (max 0 ((f k).1 - m), min 1099511627776 ((f k).2 + m))) := Lib.hid rfl
    generalize (f k).1 = x0 at *
    generalize (f k).2 = x1 at *
    obtain ⟨y0, hy0⟩ : ∃ y0, y0 = max 0 (x0 - m) := ⟨_, rfl⟩
    obtain ⟨y1, hy1⟩ : ∃ y1, y1 = min 1099511627776 (x1 + m) := ⟨_, rfl⟩
    have hw1 : IntKind.i64.wrap (x0 - m) = x0 - m := IntWalk.i64_in _ ⟨by omega, by omega⟩
    have hw2 : IntKind.i64.wrap (x1 + m) = x1 + m := IntWalk.i64_in _ ⟨by omega, by omega⟩
    have hi0 : (if m < x0 then x0 - m else 0) = y0 := by rw [hy0]; split <;> omega
    have hi1 : (if x1 + m < 1099511627776 then x1 + m else 1099511627776) = y1 := by rw [hy1]; split <;> omega
    have HWY : Hid (wdF f m k = (y0, y1)) := Lib.hid (by rw [HW.out, hy0, hy1])
    clear hy0 hy1
    go_upto_region 10 with fail
    obtain ⟨e1, he1⟩ : ∃ zz, zz = wr.alloc (.cells #[.int .i64 x0, .int .i64 x1] 53) := ⟨_, rfl⟩
    have HX1 : Hid (Blk e1 wr.heap.size 53 #[.int .i64 x0, .int .i64 x1]) := Lib.hid (he1 ▸ Blk.new _ _ _)
    have HL1 : Hid (Below w1.heap.size w1 e1) := Lib.hid (he1 ▸ HL.out.alloc hzr _)
    have HO1 : Hid (e1.ownsRow w1.heap.size 53 2 u4 k (rowR (wdF f m) k)) := Lib.hid (he1 ▸ HO.out.alloc _)
    rw [← he1]
    clear he1 HO HL HBr r0 r1
    have hz1' := HL1.out.size
    have x00 : e1.cell? ⟨wr.heap.size, 0, none⟩ = some (.int .i64 x0) := HX1.out.cell 0
    have x01 : e1.cell? ⟨wr.heap.size, 1, none⟩ = some (.int .i64 x1) := HX1.out.cell 1
    go_wp2_with (at_builtin; refine wpList_append_own_at _ rfl _ _ 41 rfl w1.heap.size 53 i0 (.agg #[.int .i64 0, .int .i64 0]) 2 16 Tryz.underlying41 hif hz0 hz1 hz2 rfl (by decide) u4 k (rowR (wdF f m) k) rfl (HO1.out.alloc _) ⟨_, 0, none⟩ 1 1 [.int .i64 y0, .int .i64 y1] rfl rfl (cell_two_new _ _ _ _) (one_two _ _) (by unfold maxLen; omega) (by omega) (by simp; omega) ?_; intro v6 wb hown2 hgrow2 _ hat2)
    have HO6 : Hid (wb.ownsRow w1.heap.size 53 2 v6 (k + 1) (rowR (wdF f m) (k + 1))) := Lib.hid (by rw [← rowR_succ, HWY.out]; exact hown2)
    have HL6 : Hid (Below w1.heap.size w1 wb) := Lib.hid ((HL1.out.trans (Below.mono (below_alloc _ _) hz1')).grown hgrow2 (by simp; omega) (fun j hj => (HO1.out.lt j hj).1))
    clear hown2 hgrow2 hat2 HO1 HL1
    go_wp2_with fail
    go_roundw
    case rel => exact ⟨k + 1, by omega, by go_num, HO6.out, HL6.out⟩
    case measure => simp [intOf]; omega
end Go.Proofs.YtonkjnkokikpgaaGreat
