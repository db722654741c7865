/- Contract of the law PlanStepSpec: it returns true for every course and all numbers. -/
import Derived.Test.YtnmocdfogdcliaaSane
import Derived.Test.YtnmocdfogdcliaaOpen
import Derived.Test.YtnmocdfogdcliaaRefSpoil
namespace Go.Proofs.Ytnmocdfogdcliaa
open Go.RowKit

set_option maxRecDepth 100000 in
set_option maxHeartbeats 8000000 in
theorem step_4 {PA : Option Addr} {n pc : Nat} {cp st fl : Int} {lo hi dm ou sp : Nat → Int} (B : Nat) (t x r q : Int) (w : World) (hn : n ≤ 9223372036854775807) (hB : B ≤ w.heap.size) (hr : Rd w B PA (n * 5) (psc lo hi dm ou sp)) :
    Calls Try.prog 4 #[(.agg #[.int .i64 cp, .int .i64 st, .int .i64 fl, .slice PA n pc]), .int .i64 t, .int .i64 x, .int .i64 r, .int .i64 q] w fun e w' => e = .returned (.bool true) ∧ Below w.heap.size w w' := by
  obtain ⟨w0, hw0⟩ : ∃ zz, zz = w.alloc (.cells #[.int .i64 cp, .int .i64 st, .int .i64 fl, .slice PA n pc] 26) := ⟨_, rfl⟩
  have HK0 : Hid (Blk w0 w.heap.size 26 #[.int .i64 cp, .int .i64 st, .int .i64 fl, .slice PA n pc]) := Lib.hid (hw0 ▸ Blk.new _ _ _)
  have HB0 : Hid (Below w.heap.size w w0) := Lib.hid (hw0 ▸ below_alloc _ _)
  have HW := Lib.hid hw0
  have H17 : Hid (∀ W, Below w.heap.size w W → Calls Try.prog 17 #[(.agg #[.int .i64 cp, .int .i64 st, .int .i64 fl, .slice PA n pc]), .int .i64 t, .int .i64 x] W fun e w' => e = .returned (.tuple #[.int .i64 (relV cp st fl n lo hi dm ou sp t x), .int .i64 (relE cp st fl n lo hi dm ou sp t x)]) ∧ Below W.heap.size W w') := Lib.hid fun W h => Release_17 B t x W hn (by have := h.size; omega) (hr.below (h.mono hB))
  have H18 : Hid (∀ W, Below w.heap.size w W → Calls Try.prog 18 #[(.agg #[.int .i64 cp, .int .i64 st, .int .i64 fl, .slice PA n pc]), .int .i64 t, .int .i64 x] W fun e w' => e = .returned (.tuple #[.int .i64 (relV cp st fl n lo hi dm ou sp t x), .int .i64 (relE cp st fl n lo hi dm ou sp t x)]) ∧ Below W.heap.size W w') := Lib.hid fun W h => Release_18 B t x W hn (by have := h.size; omega) (hr.below (h.mono hB))
  have H19 : Hid (∀ W, Below w.heap.size w W → Calls Try.prog 19 #[(.agg #[.int .i64 cp, .int .i64 st, .int .i64 fl, .slice PA n pc]), .int .i64 t, .int .i64 x, .int .i64 r, .int .i64 q] W fun e w' => e = .returned (nxV cp st fl n lo hi dm ou sp t x r q) ∧ Below W.heap.size W w') := Lib.hid fun W h => Next_19 B t x r q W hn (by have := h.size; omega) (hr.below (h.mono hB))
  have H20 : Hid (∀ W, Below w.heap.size w W → Calls Try.prog 20 #[(.agg #[.int .i64 cp, .int .i64 st, .int .i64 fl, .slice PA n pc]), .int .i64 t, .int .i64 x, .int .i64 r, .int .i64 q] W fun e w' => e = .returned (nxV cp st fl n lo hi dm ou sp t x r q) ∧ Below W.heap.size W w') := Lib.hid fun W h => Next_20 B t x r q W hn (by have := h.size; omega) (hr.below (h.mono hB))
  have H21 : Hid (∀ W, Below w.heap.size w W → Calls Try.prog 21 #[(.agg #[.int .i64 cp, .int .i64 st, .int .i64 fl, .slice PA n pc]), .int .i64 t, .int .i64 x, .int .i64 r] W fun e w' => e = .returned (.tuple #[.int .i64 (spV cp st fl n lo hi dm ou sp t x r), .int .i64 (spE cp st fl n lo hi dm ou sp t x r)]) ∧ Below W.heap.size W w') := Lib.hid fun W h => Spoil_21 B t x r W hn (by have := h.size; omega) (hr.below (h.mono hB))
  have H22 : Hid (∀ W, Below w.heap.size w W → Calls Try.prog 22 #[(.agg #[.int .i64 cp, .int .i64 st, .int .i64 fl, .slice PA n pc]), .int .i64 t, .int .i64 x, .int .i64 r] W fun e w' => e = .returned (.tuple #[.int .i64 (spV cp st fl n lo hi dm ou sp t x r), .int .i64 (spE cp st fl n lo hi dm ou sp t x r)]) ∧ Below W.heap.size W w') := Lib.hid fun W h => Spoil_22 B t x r W hn (by have := h.size; omega) (hr.below (h.mono hB))
  clear hw0 hr hn
  obtain ⟨n1, n2, n3, n4, hnv⟩ : ∃ n1 n2 n3 n4, nxV cp st fl n lo hi dm ou sp t x r q = .tuple #[.int .i64 n1, .int .i64 n2, .bool n3, .int .i64 n4] := ⟨_, _, _, _, rfl⟩
  rw [hnv] at H19 H20
  clear hnv
  generalize relV cp st fl n lo hi dm ou sp t x = v1 at H17 H18
  generalize relE cp st fl n lo hi dm ou sp t x = v2 at H17 H18
  generalize spV cp st fl n lo hi dm ou sp t x r = v3 at H21 H22
  generalize spE cp st fl n lo hi dm ou sp t x r = v4 at H21 H22
  go_enter Try.func4, Try.ntmps4
  go_upto_region 1 with fail
  rw [← HW.out]
  clear HW
  go_wp2_with fail
  refine (sane_11 _).mono ?_
  rintro e w1 ⟨rfl, hb⟩
  have HB1 := Lib.hid (HB0.out.trans (hb.mono HB0.out.size))
  have HK1 := Lib.hid (HK0.out.below hb HK0.out.lt)
  clear hb HB0 HK0
  have c0 : w1.cell? ⟨w.heap.size, 0, none⟩ = some (.int .i64 cp) := HK1.out.cell 0
  have c1 : w1.cell? ⟨w.heap.size, 1, none⟩ = some (.int .i64 st) := HK1.out.cell 1
  have c2 : w1.cell? ⟨w.heap.size, 2, none⟩ = some (.int .i64 fl) := HK1.out.cell 2
  have c3 : w1.cell? ⟨w.heap.size, 3, none⟩ = some (.slice PA n pc) := HK1.out.cell 3
  go_wp2_with fail
  refine (H17.out _ HB1.out).mono ?_
  rintro e w2 ⟨rfl, hb⟩
  have HB2 := Lib.hid (HB1.out.trans (hb.mono HB1.out.size))
  have HK2 := Lib.hid (HK1.out.below hb HK1.out.lt)
  clear hb HB1 HK1 c0 c1 c2 c3
  have c0 : w2.cell? ⟨w.heap.size, 0, none⟩ = some (.int .i64 cp) := HK2.out.cell 0
  have c1 : w2.cell? ⟨w.heap.size, 1, none⟩ = some (.int .i64 st) := HK2.out.cell 1
  have c2 : w2.cell? ⟨w.heap.size, 2, none⟩ = some (.int .i64 fl) := HK2.out.cell 2
  have c3 : w2.cell? ⟨w.heap.size, 3, none⟩ = some (.slice PA n pc) := HK2.out.cell 3
  go_wp2_with fail
  refine (H18.out _ HB2.out).mono ?_
  rintro e w3 ⟨rfl, hb⟩
  have HB3 := Lib.hid (HB2.out.trans (hb.mono HB2.out.size))
  have HK3 := Lib.hid (HK2.out.below hb HK2.out.lt)
  clear hb HB2 HK2 c0 c1 c2 c3
  have c0 : w3.cell? ⟨w.heap.size, 0, none⟩ = some (.int .i64 cp) := HK3.out.cell 0
  have c1 : w3.cell? ⟨w.heap.size, 1, none⟩ = some (.int .i64 st) := HK3.out.cell 1
  have c2 : w3.cell? ⟨w.heap.size, 2, none⟩ = some (.int .i64 fl) := HK3.out.cell 2
  have c3 : w3.cell? ⟨w.heap.size, 3, none⟩ = some (.slice PA n pc) := HK3.out.cell 3
  go_wp2_with fail
  refine (H19.out _ HB3.out).mono ?_
  rintro e w4 ⟨rfl, hb⟩
  have HB4 := Lib.hid (HB3.out.trans (hb.mono HB3.out.size))
  have HK4 := Lib.hid (HK3.out.below hb HK3.out.lt)
  clear hb HB3 HK3 c0 c1 c2 c3
  have c0 : w4.cell? ⟨w.heap.size, 0, none⟩ = some (.int .i64 cp) := HK4.out.cell 0
  have c1 : w4.cell? ⟨w.heap.size, 1, none⟩ = some (.int .i64 st) := HK4.out.cell 1
  have c2 : w4.cell? ⟨w.heap.size, 2, none⟩ = some (.int .i64 fl) := HK4.out.cell 2
  have c3 : w4.cell? ⟨w.heap.size, 3, none⟩ = some (.slice PA n pc) := HK4.out.cell 3
  go_wp2_with fail
  refine (H20.out _ HB4.out).mono ?_
  rintro e w5 ⟨rfl, hb⟩
  have HB5 := Lib.hid (HB4.out.trans (hb.mono HB4.out.size))
  have HK5 := Lib.hid (HK4.out.below hb HK4.out.lt)
  clear hb HB4 HK4 c0 c1 c2 c3
  have c0 : w5.cell? ⟨w.heap.size, 0, none⟩ = some (.int .i64 cp) := HK5.out.cell 0
  have c1 : w5.cell? ⟨w.heap.size, 1, none⟩ = some (.int .i64 st) := HK5.out.cell 1
  have c2 : w5.cell? ⟨w.heap.size, 2, none⟩ = some (.int .i64 fl) := HK5.out.cell 2
  have c3 : w5.cell? ⟨w.heap.size, 3, none⟩ = some (.slice PA n pc) := HK5.out.cell 3
  go_wp2_with fail
  refine (H21.out _ HB5.out).mono ?_
  rintro e w6 ⟨rfl, hb⟩
  have HB6 := Lib.hid (HB5.out.trans (hb.mono HB5.out.size))
  have HK6 := Lib.hid (HK5.out.below hb HK5.out.lt)
  clear hb HB5 HK5 c0 c1 c2 c3
  have c0 : w6.cell? ⟨w.heap.size, 0, none⟩ = some (.int .i64 cp) := HK6.out.cell 0
  have c1 : w6.cell? ⟨w.heap.size, 1, none⟩ = some (.int .i64 st) := HK6.out.cell 1
  have c2 : w6.cell? ⟨w.heap.size, 2, none⟩ = some (.int .i64 fl) := HK6.out.cell 2
  have c3 : w6.cell? ⟨w.heap.size, 3, none⟩ = some (.slice PA n pc) := HK6.out.cell 3
  go_wp2_with fail
  refine (H22.out _ HB6.out).mono ?_
  rintro e w7 ⟨rfl, hb⟩
  have HB7 := Lib.hid (HB6.out.trans (hb.mono HB6.out.size))
  have HK7 := Lib.hid (HK6.out.below hb HK6.out.lt)
  clear hb HB6 HK6 c0 c1 c2 c3
  go_wp2_with fail
  go_ret
  exact ⟨rfl, HB7.out⟩
end Go.Proofs.Ytnmocdfogdcliaa
