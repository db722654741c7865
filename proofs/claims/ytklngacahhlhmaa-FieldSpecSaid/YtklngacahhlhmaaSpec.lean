/- Contracts of the laws FieldSpec and FieldPolySpec: they return true for every input. -/
import Derived.Test.YtklngacahhlhmaaSane
namespace Go.Proofs.Ytklngacahhlhmaa
open Go.RowKit
open Pl (inv eQ Cg sumN prodN lagr)

set_option maxRecDepth 100000 in
set_option maxHeartbeats 1000000 in
theorem spec_3 (a b : Int) (w : World) (ha : I64 a) (hb : I64 b) : Calls Try.prog 3 #[.int .i64 a, .int .i64 b] w fun e w' => e = .returned (.bool true) ∧ Below w.heap.size w w' := by
  have HA := Lib.hid ha
  have HB := Lib.hid hb
  clear ha hb
  go_enter Try.func3, Try.ntmps3
  go_wp2_with fail
  refine (sane_9 _).mono ?_
  rintro e w1 ⟨rfl, hb1⟩
  have B1 := Lib.hid hb1
  clear hb1
  go_wp2_with fail
  refine (inv_10 _ _ HA.out).mono ?_
  rintro e w' ⟨rfl, rfl⟩
  go_wp2_with fail
  refine (inv_11 _ _ HA.out).mono ?_
  rintro e w' ⟨rfl, rfl⟩
  go_wp2_with fail
  refine (mod_12 _ _ HA.out).mono ?_
  rintro e w' ⟨rfl, rfl⟩
  go_wp2_with fail
  refine (mod_13 _ _ HA.out).mono ?_
  rintro e w' ⟨rfl, rfl⟩
  go_wp2_with fail
  refine (add_14 _ _ _ HA.out HB.out).mono ?_
  rintro e w2 ⟨rfl, hb2⟩
  have B2 := Lib.hid (below_then B1.out hb2 (Nat.le_refl _))
  clear hb2
  go_wp2_with fail
  refine (add_15 _ _ _ HA.out HB.out).mono ?_
  rintro e w' ⟨rfl, rfl⟩
  go_wp2_with fail
  refine (mul_16 _ _ _ HA.out HB.out).mono ?_
  rintro e w' ⟨rfl, rfl⟩
  go_wp2_with fail
  refine (mul_17 _ _ _ HA.out HB.out).mono ?_
  rintro e w' ⟨rfl, rfl⟩
  go_wp2_with fail
  go_ret
  exact ⟨rfl, B2.out⟩

set_option maxRecDepth 100000 in
set_option maxHeartbeats 1000000 in
theorem poly_4 (A A' : Option Addr) (n c n' c' B : Nat) (f X Y : Nat → Int) (t : Int) (w : World) (hm : n ≤ 9223372036854775807) (hm' : n' ≤ 9223372036854775807) (hB : B ≤ w.heap.size)
    (hr : Rd w B A n (fun j => .int .i64 (f j))) (hr' : RdP w B A' n' X Y) (hf : ∀ j, I64 (f j)) (hx : ∀ j, I64 (X j)) (hy : ∀ j, I64 (Y j)) (ht : I64 t) :
    Calls Try.prog 4 #[.slice A n c, .slice A' n' c', .int .i64 t] w fun e w' => e = .returned (.bool true) ∧ Below w.heap.size w w' := by
  have HF := Lib.hid hf
  have HX := Lib.hid hx
  have HY := Lib.hid hy
  have HT := Lib.hid ht
  have HR := Lib.hid hr
  have HR' := Lib.hid hr'
  clear hf hx hy ht hr hr'
  by_cases hn : 100 < n
  · have hn' : (100 : Int) < n := by omega
    go_enter Try.func4, Try.ntmps4
    go_wp2_with fail
    refine (sane_9 _).mono ?_
    rintro e w1 ⟨rfl, hb1⟩
    have B1 := Lib.hid hb1
    clear hb1
    go_wp2_with fail
    all_goals (go_ret; exact ⟨rfl, B1.out⟩)
  have hn' : (n : Int) ≤ 100 := by omega
  by_cases hf : 70 < n'
  · have H7 : Hid (decide (n' ≤ 70) = false) := Lib.hid (by simpa using hf)
    clear hf
    go_enter Try.func4, Try.ntmps4
    go_wp2_with fail
    refine (sane_9 _).mono ?_
    rintro e w1 ⟨rfl, hb1⟩
    have B1 := Lib.hid hb1
    clear hb1
    go_wp2_with fail
    refine (few_18 _ _ _ _ hm').mono ?_
    rintro e w' ⟨rfl, rfl⟩
    rw [H7.out]
    go_wp2_with fail
    all_goals (go_ret; exact ⟨rfl, B1.out⟩)
  have H7 : Hid (decide (n' ≤ 70) = true) := Lib.hid (by simp; omega)
  clear hf
  go_enter Try.func4, Try.ntmps4
  go_wp2_with fail
  refine (sane_9 _).mono ?_
  rintro e w1 ⟨rfl, hb1⟩
  have B1 := Lib.hid hb1
  clear hb1
  go_wp2_with fail
  refine (few_18 _ _ _ _ hm').mono ?_
  rintro e w' ⟨rfl, rfl⟩
  rw [H7.out]
  go_wp2_with fail
  refine (at_19 A' n' c' B X Y t _ hm' (Nat.le_trans hB B1.out.size) (fun _ => Rd.below HR'.out (B1.out.mono hB)) HX.out HY.out HT.out).mono ?_
  rintro e w2 ⟨rfl, hb2⟩
  have B2 := Lib.hid (below_then B1.out hb2 (Nat.le_refl _))
  clear hb2
  go_wp2_with fail
  refine (at_20_any A' n' c' B X Y t _ hm' (fun _ => Rd.below HR'.out (B2.out.mono hB)) HX.out HY.out HT.out).mono ?_
  rintro e w3 ⟨rfl, hq⟩
  have B3 := Lib.hid (below_quiet B2.out hq)
  clear hq
  go_wp2_with fail
  refine (value_21 A n c B f t _ (by omega) (Nat.le_trans hB B3.out.size) (Rd.below HR.out (B3.out.mono hB)) (fun j _ => HF.out j) HT.out).mono ?_
  rintro e w4 ⟨rfl, hb4⟩
  have B4 := Lib.hid (below_then B3.out hb4 (Nat.le_refl _))
  clear hb4
  go_wp2_with fail
  refine (value_22 A n c B f t _ (by omega) (Rd.below HR.out (B4.out.mono hB)) (fun j _ => HF.out j) HT.out).mono ?_
  rintro e w5 ⟨rfl, hq⟩
  have B5 := Lib.hid (below_quiet B4.out hq)
  clear hq
  go_wp2_with fail
  go_ret
  exact ⟨rfl, B5.out⟩

end Go.Proofs.Ytklngacahhlhmaa
