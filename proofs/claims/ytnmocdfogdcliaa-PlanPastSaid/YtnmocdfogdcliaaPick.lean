/- Contracts of pick and at; an argument of type []uint32. -/
import Derived.Test.YtnmocdfogdcliaaRefRelease2
import Derived.Test.YtnmocdfogdcliaaOpen
namespace Go.Proofs.Ytnmocdfogdcliaa
open Go.RowKit

set_option maxRecDepth 100000 in
set_option maxHeartbeats 4000000 in
theorem pick_26 (L H a : Int) (w : World) (h1 : 0 ≤ L ∧ L ≤ H ∧ H ≤ 1099511627776) (h2 : 0 ≤ a ∧ a ≤ 4294967295) :
    Calls Try.prog 26 #[.agg #[.int .i64 L, .int .i64 H], .int .u32 a] w fun e w' => ∃ v, e = .returned (.int .i64 v) ∧ (L ≤ v ∧ v ≤ H) ∧ v = L + a % (H - L + 1) ∧ Below w.heap.size w w' := by
  obtain ⟨w0, hw0⟩ : ∃ zz, zz = w.alloc (.cells #[.int .i64 L, .int .i64 H] 48) := ⟨_, rfl⟩
  have HK0 : Hid (Blk w0 w.heap.size 48 #[.int .i64 L, .int .i64 H]) := Lib.hid (hw0 ▸ Blk.new _ _ _)
  have HB0 : Hid (Below w.heap.size w w0) := Lib.hid (hw0 ▸ below_alloc _ _)
  have HW := Lib.hid hw0
  clear hw0
  have c0 : w0.cell? ⟨w.heap.size, 0, none⟩ = some (.int .i64 L) := HK0.out.cell 0
  have c1 : w0.cell? ⟨w.heap.size, 1, none⟩ = some (.int .i64 H) := HK0.out.cell 1
  obtain ⟨d, hd⟩ : ∃ d, d = H - L + 1 := ⟨_, rfl⟩
  obtain ⟨m, hm⟩ : ∃ m, m = a % d := ⟨_, rfl⟩
  have hd1 : 1 ≤ d ∧ d ≤ 1099511627777 := by omega
  have hm0 := Int.emod_nonneg a (show d ≠ 0 by omega)
  have hm1 := Int.emod_lt_of_pos a (show 0 < d by omega)
  rw [← hm] at hm0 hm1
  have hq : Int.tmod a d = m := by rw [Int.tmod_eq_emod_of_nonneg h2.1]; exact hm.symm
  have hw1 : IntKind.i64.wrap (H - L) = H - L := IntWalk.i64_in _ ⟨by omega, by omega⟩
  have hw2 : IntKind.i64.wrap (H - L + 1) = d := by rw [← hd]; exact IntWalk.i64_in _ ⟨by omega, by omega⟩
  have hw3 : IntKind.i64.wrap (L + m) = L + m := IntWalk.i64_in _ ⟨by omega, by omega⟩
  have hw4 : IntKind.i64.wrap a = a := IntWalk.i64_in _ ⟨by omega, by omega⟩
  have hd0 : (d == 0) = false := by simp; omega
  have hdne : d ≠ 0 := by omega
  have HM : Hid (m = a % (H - L + 1)) := Lib.hid (hd ▸ hm)
  have HDD := Lib.hid hd
  clear hm hd
  go_enter Try.func26, Try.ntmps26
  go_upto_region 1 with fail
  rw [← HW.out]
  clear HW
  go_quiet (fail)
  go_wp2_with fail
  go_ret
  have hdd := HDD.out
  exact ⟨L + m, rfl, ⟨by omega, by omega⟩, by rw [HM.out], below_quiet HB0.out ⟨_, rfl⟩⟩

/-- an element, or 0 -/
def atV (u : Nat → Int) (m i : Nat) : Int := if i < m then u i else 0
set_option maxRecDepth 100000 in
set_option maxHeartbeats 4000000 in
theorem at_27 (A : Option Addr) (m c B i : Nat) (u : Nat → Int) (w : World) (hr : Rd w B A m (fun j => .int .u32 (u j))) :
    Calls Try.prog 27 #[.slice A m c, .int .i64 i] w fun e w' => e = .returned (.int .u32 (atV u m i)) ∧ w = w' := by
  go_enter Try.func27, Try.ntmps27
  by_cases h : i < m
  · have h' : (i : Int) < m := by omega
    obtain ⟨b, o, rfl, _, hc⟩ := hr (by omega)
    have p0 : w.cell? ⟨b, o + i, none⟩ = some (.int .u32 (u i)) := hc i h
    clear hc
    go_wp2_with fail
    go_ret
    exact ⟨by simp [atV, h], rfl⟩
  · have h' : ¬ (i : Int) < m := by omega
    go_wp2_with fail
    go_ret
    exact ⟨by simp [atV, h], rfl⟩
end Go.Proofs.Ytnmocdfogdcliaa
