/- Contract of the reference's Clashing. -/
import Derived.Test.YtbojjhdcmogjdaaMay
namespace Go.Proofs.Ytbojjhdcmogjdaa
open Go.RowKit

/-- do two cases clash, as lists -/
def claL (x y : Int) (F : Nat → Int) (fn : Nat) (R : Nat → Int) (rn : Nat) (G : Nat → Int) (gn : Nat) (Q : Nat → Int) (qn : Nat) : Bool := (!decide (x = y) && allB R G gn rn) && allB Q F fn qn
set_option maxRecDepth 100000 in
set_option maxHeartbeats 4000000 in
theorem Clashing_29 (n1 h1 x n2 h2 y : Int) (FA RA GA QA : Option Addr) (fn fc rn rc gn gc qn qc B : Nat) (F R G Q : Nat → Int) (w : World) (hf : fn ≤ 1000) (hr : rn ≤ 1000) (hg : gn ≤ 1000) (hq : qn ≤ 1000) (hB : B ≤ w.heap.size)
    (rF : Rd w B FA fn (fun j => .int .i64 (F j))) (rR : Rd w B RA rn (fun j => .int .i64 (R j))) (rG : Rd w B GA gn (fun j => .int .i64 (G j))) (rQ : Rd w B QA qn (fun j => .int .i64 (Q j))) :
    Calls Try.prog 29 #[.agg #[.int .i64 n1, .int .i64 h1, .int .i64 x, .slice FA fn fc, .slice RA rn rc], .agg #[.int .i64 n2, .int .i64 h2, .int .i64 y, .slice GA gn gc, .slice QA qn qc]] w fun e w' => e = .returned (.bool (claL x y F fn R rn G gn Q qn)) ∧ Below w.heap.size w w' := by
  obtain ⟨w0, hw0⟩ : ∃ zz, zz = (w.alloc (.cells #[.int .i64 n1, .int .i64 h1, .int .i64 x, .slice FA fn fc, .slice RA rn rc] 44)).alloc (.cells #[.int .i64 n2, .int .i64 h2, .int .i64 y, .slice GA gn gc, .slice QA qn qc] 44) := ⟨_, rfl⟩
  have HK : Blk w0 w.heap.size 44 #[.int .i64 n1, .int .i64 h1, .int .i64 x, .slice FA fn fc, .slice RA rn rc] := hw0 ▸ (Blk.new _ _ _).alloc _
  have HL : Blk w0 (w.heap.size + 1) 44 #[.int .i64 n2, .int .i64 h2, .int .i64 y, .slice GA gn gc, .slice QA qn qc] := hw0 ▸ Blk.new' (by simp)
  have hb : Below w.heap.size w w0 := by rw [hw0]; (repeat (first | exact Below.refl _ _ | exact below_alloc _ _ | refine Below.alloc ?_ (by simp; omega) _ | refine Below.alloc ?_ (by simp) _))
  have H1 : Hid (Calls Try.prog 24 #[.slice RA rn rc, .slice GA gn gc] w0 fun e w' => e = .returned (.bool (allB R G gn rn)) ∧ w0 = w') := Lib.hid (All_24 RA GA rn rc gn gc B R G w0 (by omega) (by omega) (rR.below (hb.mono hB)) (rG.below (hb.mono hB)))
  have H2 : Hid (Calls Try.prog 24 #[.slice QA qn qc, .slice FA fn fc] w0 fun e w' => e = .returned (.bool (allB Q F fn qn)) ∧ w0 = w') := Lib.hid (All_24 QA FA qn qc fn fc B Q F w0 (by omega) (by omega) (rQ.below (hb.mono hB)) (rF.below (hb.mono hB)))
  have HBB := Lib.hid hb
  have HW := Lib.hid hw0
  clear rF rR rG rQ hb hw0
  have a2 : w0.cell? ⟨w.heap.size, 2, none⟩ = some (.int .i64 x) := HK.cell 2
  have a3 : w0.cell? ⟨w.heap.size, 3, none⟩ = some (.slice FA fn fc) := HK.cell 3
  have a4 : w0.cell? ⟨w.heap.size, 4, none⟩ = some (.slice RA rn rc) := HK.cell 4
  have b2 : w0.cell? ⟨w.heap.size + 1, 2, none⟩ = some (.int .i64 y) := HL.cell 2
  have b3 : w0.cell? ⟨w.heap.size + 1, 3, none⟩ = some (.slice GA gn gc) := HL.cell 3
  have b4 : w0.cell? ⟨w.heap.size + 1, 4, none⟩ = some (.slice QA qn qc) := HL.cell 4
  clear HK HL
  go_enter Try.func29, Try.ntmps29
  go_upto_region 1 with fail
  rw [← HW.out]
  by_cases h : x = y
  · have HV : Hid (claL x y F fn R rn G gn Q qn = false) := Lib.hid (by simp [claL, h])
    subst h
    go_wp2_with fail
    go_ret
    exact ⟨ret_bool HV.out.symm, HBB.out⟩
  · have HV : Hid (claL x y F fn R rn G gn Q qn = (allB R G gn rn && allB Q F fn qn)) := Lib.hid (by simp [claL, h])
    have h' : (x != y) = true := by simpa using h
    clear h
    go_wp2_with fail
    refine H1.out.mono ?_
    rintro e w' ⟨rfl, rfl⟩
    cases h1 : allB R G gn rn
    · go_wp2_with fail
      go_ret
      exact ⟨ret_bool (by rw [HV.out, h1]; rfl), HBB.out⟩
    · go_wp2_with fail
      refine H2.out.mono ?_
      rintro e w' ⟨rfl, rfl⟩
      go_wp2_with fail
      go_ret
      exact ⟨ret_bool (by rw [HV.out, h1]; rfl), HBB.out⟩
end Go.Proofs.Ytbojjhdcmogjdaa
