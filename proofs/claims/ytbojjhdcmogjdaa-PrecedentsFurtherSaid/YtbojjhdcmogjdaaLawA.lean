/- Contract of the law PrecedentsSpec: it returns true for every input. -/
import Derived.Test.YtbojjhdcmogjdaaSane
import Derived.Test.YtbojjhdcmogjdaaOpen
namespace Go.Proofs.Ytbojjhdcmogjdaa
open Go.RowKit

theorem clV_form (E : Int) (o : Option (Nat × Nat)) : ∃ (a b : Int) (c : Bool), clV E o = .tuple #[.int .i64 a, .int .i64 b, .bool c, .int .i64 E] := ⟨_, _, _, rfl⟩

set_option maxRecDepth 100000 in
set_option maxHeartbeats 4000000 in
theorem spec_3 {SA CA : Option Addr} {sn sc n cc : Nat} {S no hr wi : Nat → Int} {FA RA : Nat → Option Addr} {fn fc rn rc : Nat → Nat} {F R : Nat → Nat → Int} (B : Nat) (w : World) (hn : n ≤ 9223372036854775807) (hB : B ≤ w.heap.size) (hr0 : RdK w B SA sn S CA n no hr wi FA fn fc F RA rn rc R) :
    Calls Try.prog 3 #[(.agg #[.slice SA sn sc, .slice CA n cc])] w fun e w' => e = .returned (.bool true) ∧ Below w.heap.size w w' := by
  have HF : Hid (∀ W, Below w.heap.size w W → Calls Try.prog 10 #[(.agg #[.slice SA sn sc, .slice CA n cc])] W fun e w' => (∃ b, e = .returned (.bool b) ∧ (b = true → SmK sn n fn rn)) ∧ Below W.heap.size W w') := Lib.hid fun W h => Few_10 B W hn (Nat.le_trans hB h.size) (hr0.below (h.mono hB))
  obtain ⟨a, b, c, hv⟩ := clV_form (chkE S sn n no hr wi fn F rn R) (prB (clsP wi fn F rn R) n 0 n)
  have H11 : Hid (SmK sn n fn rn → ∀ W, Below w.heap.size w W → Calls Try.prog 11 #[(.agg #[.slice SA sn sc, .slice CA n cc])] W fun e w' => e = .returned (.tuple #[.int .i64 a, .int .i64 b, .bool c, .int .i64 (chkE S sn n no hr wi fn F rn R)]) ∧ Below W.heap.size W w') := Lib.hid fun hs W h => by
    rw [← hv]; exact Clash_11 B W hs (Nat.le_trans hB h.size) (hr0.below (h.mono hB))
  have H12 : Hid (SmK sn n fn rn → ∀ W, Below w.heap.size w W → Calls Try.prog 12 #[(.agg #[.slice SA sn sc, .slice CA n cc])] W fun e w' => e = .returned (.tuple #[.int .i64 a, .int .i64 b, .bool c, .int .i64 (chkE S sn n no hr wi fn F rn R)]) ∧ Below W.heap.size W w') := Lib.hid fun hs W h => by
    rw [← hv, cl_same]; exact ref_Clash_12 B W hs (Nat.le_trans hB h.size) (hr0.below (h.mono hB))
  have H13 : Hid (SmK sn n fn rn → ∀ W, Below w.heap.size w W → Calls Try.prog 13 #[(.agg #[.slice SA sn sc, .slice CA n cc])] W fun e w' => e = .returned (.int .i64 (chkE S sn n no hr wi fn F rn R)) ∧ Below W.heap.size W w') := Lib.hid fun hs W h => Check_13 B W hs (Nat.le_trans hB h.size) (hr0.below (h.mono hB))
  have H14 : Hid (SmK sn n fn rn → ∀ W, Below w.heap.size w W → Calls Try.prog 14 #[(.agg #[.slice SA sn sc, .slice CA n cc])] W fun e w' => e = .returned (.int .i64 (chkE S sn n no hr wi fn F rn R)) ∧ Below W.heap.size W w') := Lib.hid fun hs W h => ref_Check_14 B W hs (Nat.le_trans hB h.size) (hr0.below (h.mono hB))
  clear hr0 hv
  generalize (chkE S sn n no hr wi fn F rn R) = E at H11 H12 H13 H14
  go_enter Try.func3, Try.ntmps3
  go_upto_region 1 with fail
  obtain ⟨w0, hw0⟩ : ∃ zz, zz = w.alloc (.cells #[.slice SA sn sc, .slice CA n cc] 25) := ⟨_, rfl⟩
  have HK0 : Hid (Blk w0 w.heap.size 25 #[.slice SA sn sc, .slice CA n cc]) := Lib.hid (hw0 ▸ Blk.new _ _ _)
  have HB0 : Hid (Below w.heap.size w w0) := Lib.hid (hw0 ▸ below_alloc _ _)
  rw [← hw0]
  clear hw0
  go_wp2_with fail
  refine (sane_9 _).mono ?_
  rintro e w1 ⟨rfl, hb⟩
  have HK1 := Lib.hid (HK0.out.below hb HK0.out.lt)
  have HB1 := Lib.hid (HB0.out.trans (hb.mono HB0.out.size))
  clear hb HK0 HB0
  have cb0 : w1.cell? ⟨w.heap.size, 0, none⟩ = some (.slice SA sn sc) := HK1.out.cell 0
  have cb1 : w1.cell? ⟨w.heap.size, 1, none⟩ = some (.slice CA n cc) := HK1.out.cell 1
  go_wp2_with fail
  refine (HF.out _ HB1.out).mono ?_
  rintro e w2 ⟨⟨few, rfl, hfew⟩, hb⟩
  have HK2 := Lib.hid (HK1.out.below hb HK1.out.lt)
  have HB2 := Lib.hid (HB1.out.trans (hb.mono HB1.out.size))
  clear hb HK1 HB1 cb0 cb1
  cases few with
  | false =>
    go_wp2_with fail
    go_ret
    exact ⟨rfl, HB2.out⟩
  | true =>
    have hs := hfew rfl
    have h11 := Lib.hid (H11.out hs)
    have h12 := Lib.hid (H12.out hs)
    have h13 := Lib.hid (H13.out hs)
    have h14 := Lib.hid (H14.out hs)
    clear H11 H12 H13 H14 HF hs hfew
    have cb0 : w2.cell? ⟨w.heap.size, 0, none⟩ = some (.slice SA sn sc) := HK2.out.cell 0
    have cb1 : w2.cell? ⟨w.heap.size, 1, none⟩ = some (.slice CA n cc) := HK2.out.cell 1
    go_wp2_with fail
    refine (h11.out _ HB2.out).mono ?_
    rintro e w3 ⟨rfl, hb⟩
    have HK3 := Lib.hid (HK2.out.below hb HK2.out.lt)
    have HB3 := Lib.hid (HB2.out.trans (hb.mono HB2.out.size))
    clear hb HK2 HB2 cb0 cb1
    have cb0 : w3.cell? ⟨w.heap.size, 0, none⟩ = some (.slice SA sn sc) := HK3.out.cell 0
    have cb1 : w3.cell? ⟨w.heap.size, 1, none⟩ = some (.slice CA n cc) := HK3.out.cell 1
    go_wp2_with fail
    refine (h12.out _ HB3.out).mono ?_
    rintro e w4 ⟨rfl, hb⟩
    have HK4 := Lib.hid (HK3.out.below hb HK3.out.lt)
    have HB4 := Lib.hid (HB3.out.trans (hb.mono HB3.out.size))
    clear hb HK3 HB3 cb0 cb1
    have HC : Hid (∀ W, Hid (Below w4.heap.size w4 W) → Calls Try.prog 13 #[(.agg #[.slice SA sn sc, .slice CA n cc])] W fun e w' => e = .returned (.int .i64 E) ∧ Hid (Below w4.heap.size w4 w') ∧ w'.cell? ⟨w.heap.size, 0, none⟩ = some (.slice SA sn sc) ∧ w'.cell? ⟨w.heap.size, 1, none⟩ = some (.slice CA n cc)) := Lib.hid fun W h => (h13.out W (HB4.out.trans (h.out.mono HB4.out.size))).mono fun e w' h2 => by
      have hb := h.out.trans (h2.2.mono h.out.size)
      have g := HK4.out.below hb HK4.out.lt
      exact ⟨h2.1, Lib.hid hb, g.cell 0, g.cell 1⟩
    have HD : Hid (∀ W, Hid (Below w4.heap.size w4 W) → Calls Try.prog 14 #[(.agg #[.slice SA sn sc, .slice CA n cc])] W fun e w' => e = .returned (.int .i64 E) ∧ Hid (Below w4.heap.size w4 w') ∧ w'.cell? ⟨w.heap.size, 0, none⟩ = some (.slice SA sn sc) ∧ w'.cell? ⟨w.heap.size, 1, none⟩ = some (.slice CA n cc)) := Lib.hid fun W h => (h14.out W (HB4.out.trans (h.out.mono HB4.out.size))).mono fun e w' h2 => by
      have hb := h.out.trans (h2.2.mono h.out.size)
      have g := HK4.out.below hb HK4.out.lt
      exact ⟨h2.1, Lib.hid hb, g.cell 0, g.cell 1⟩
    have cb0 : w4.cell? ⟨w.heap.size, 0, none⟩ = some (.slice SA sn sc) := HK4.out.cell 0
    have cb1 : w4.cell? ⟨w.heap.size, 1, none⟩ = some (.slice CA n cc) := HK4.out.cell 1
    clear h11 h12 h13 h14
    go_upto_region 7 with fail
    go_region_held3 (fun w' => Hid (Below w4.heap.size w4 w') ∧ w'.cell? ⟨w.heap.size, 0, none⟩ = some (.slice SA sn sc) ∧ w'.cell? ⟨w.heap.size, 1, none⟩ = some (.slice CA n cc))
      (refine ⟨?_, ?_, ?_⟩ <;> first | assumption | go_keep | exact Lib.hid (Below.refl _ _).drew)
      (first | (go_at_call 13; refine (HC.out _ ?_).mono ?_; (first | assumption | (go_split_ands; assumption) | exact Lib.hid (Below.refl _ _).drew); rintro e w' ⟨rfl, hk, k0, k1⟩) | (go_at_call 14; refine (HD.out _ ?_).mono ?_; (first | assumption | (go_split_ands; assumption) | exact Lib.hid (Below.refl _ _).drew); rintro e w' ⟨rfl, hk, k0, k1⟩))
    go_wp2_with fail
    go_ret
    exact ⟨rfl, HB4.out.trans (hk.out.mono HB4.out.size)⟩
end Go.Proofs.Ytbojjhdcmogjdaa
