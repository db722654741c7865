/- Contract of the reference's allowed. -/
import Derived.Test.YtnmocdfogdcliaaRobust13
namespace Go.Proofs.Ytnmocdfogdcliaa
open Go.RowKit

/-- may so much be released? -/
def alw (dm ou : Nat → Int) (t : Nat) (x r : Int) : Bool := ri3 (dm t) r (ou t) && decide (r ≤ x)

set_option maxRecDepth 100000 in
set_option maxHeartbeats 4000000 in
theorem allowed_43 {PA : Option Addr} {n pc : Nat} {cp st fl : Int} {lo hi dm ou sp : Nat → Int} (B t : Nat) (x r : Int) (w : World) (ht : t < n) (hB : B ≤ w.heap.size) (hr : Rd w B PA (n * 5) (psc lo hi dm ou sp)) :
    Calls Try.prog 43 #[(.agg #[.int .i64 cp, .int .i64 st, .int .i64 fl, .slice PA n pc]), .int .i64 t, .int .i64 x, .int .i64 r] w fun e w' => e = .returned (.bool (alw dm ou t x r)) ∧ Below w.heap.size w w' := by
  obtain ⟨w0, hw0⟩ : ∃ zz, zz = w.alloc (.cells #[.int .i64 cp, .int .i64 st, .int .i64 fl, .slice PA n pc] 26) := ⟨_, rfl⟩
  have HK0 : Hid (Blk w0 w.heap.size 26 #[.int .i64 cp, .int .i64 st, .int .i64 fl, .slice PA n pc]) := Lib.hid (hw0 ▸ Blk.new _ _ _)
  have HB0 : Hid (Below w.heap.size w w0) := Lib.hid (hw0 ▸ below_alloc _ _)
  have HW := Lib.hid hw0
  clear hw0
  have ht' : (t : Int) < n := by omega
  have c3 : w0.cell? ⟨w.heap.size, 2 + 1, none⟩ = some (.slice PA n pc) := HK0.out.cell 3
  obtain ⟨b, o, rfl, _, _, _, p2, p3, _⟩ := per_at (hr.below (HB0.out.mono hB)) ht
  clear hr
  have HA : Hid (alw dm ou t x r = (ri3 (dm t) r (ou t) && decide (r ≤ x))) := Lib.hid rfl
  generalize alw dm ou t x r = V at HA ⊢
  generalize dm t = z2 at *
  generalize ou t = z3 at *
  go_enter Try.func43, Try.ntmps43
  go_upto_region 1 with fail
  rw [← HW.out]
  clear HW
  cases h1 : ri3 z2 r z3
  · have HV : Hid (V = false) := Lib.hid (by rw [HA.out, h1]; rfl)
    have HC : Hid (∀ m, Calls Try.prog 36 #[.int .i64 r, .int .i64 z2, .int .i64 z3] (w0.drewN m) fun e w' => e = .returned (.bool false) ∧ ∃ k, w' = w0.drewN k) := Lib.hid fun m => quiet_l ((within_36 r z2 z3 _).mono fun _ _ h => ⟨by rw [h.1, h1], h.2⟩)
    clear h1
    go_quiet (first | (go_at_call 36; exact HC.out _))
    go_wp2_with fail
    go_ret
    exact ⟨ret_bool HV.out.symm, below_quiet HB0.out ⟨_, rfl⟩⟩
  · have HC : Hid (∀ m, Calls Try.prog 36 #[.int .i64 r, .int .i64 z2, .int .i64 z3] (w0.drewN m) fun e w' => e = .returned (.bool true) ∧ ∃ k, w' = w0.drewN k) := Lib.hid fun m => quiet_l ((within_36 r z2 z3 _).mono fun _ _ h => ⟨by rw [h.1, h1], h.2⟩)
    have HV : Hid (V = decide (r ≤ x)) := Lib.hid (by rw [HA.out, h1]; rfl)
    clear h1
    go_quiet (first | (go_at_call 36; exact HC.out _))
    go_wp2_with fail
    go_ret
    exact ⟨ret_bool HV.out.symm, below_quiet HB0.out ⟨_, rfl⟩⟩
end Go.Proofs.Ytnmocdfogdcliaa
