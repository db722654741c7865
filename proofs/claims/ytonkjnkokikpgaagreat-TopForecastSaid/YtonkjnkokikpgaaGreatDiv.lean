/- Contracts of bits.Div64 with nothing above, and of stakes' right. -/
import Derived.Test.YtonkjnkokikpgaaGreatStk
namespace Go.Proofs.YtonkjnkokikpgaaGreat
open Go.RowKit

set_option maxRecDepth 100000 in
set_option maxHeartbeats 2000000 in
theorem div_74 (x y : Nat) (hy : 0 < y) (hx : x < 18446744073709551616) (w : World) :
    Calls Tryz.prog 74 #[.int .u64 0, .int .u64 x, .int .u64 y] w fun e w' => e = .returned (.tuple #[.int .u64 ((x / y : Nat) : Int), .int .u64 ((x % y : Nat) : Int)]) ∧ Below w.heap.size w w' := by
  have h1 : ((y : Int) == 0) = false := by simp; omega
  have h2 : ¬ ((y : Int) ≤ 0) := by omega
  have h3 : (y : Int) ≠ 0 := by omega
  have h5 : x / y ≤ x := Nat.div_le_self x y
  have h4 : IntKind.u64.wrap ((x : Int) / (y : Int)) = (x : Int) / (y : Int) := by
    rw [← Int.natCast_ediv]
    exact IntWalk.u64_in _ ⟨Int.natCast_nonneg _, by omega⟩
  clear h5
  go_enter Tryz.func74, Tryz.ntmps74
  go_upto_region 6 with fail
  go_region
  have HDR : Hid (Below w.heap.size w w.drew) := Lib.hid (Below.refl _ _).drew
  generalize w.drew = w1 at HDR ⊢
  go_wp2_with fail
  refine bodyPost_ret (results_tmp2 rfl _ _ _) rfl ?_
  exact ⟨rfl, HDR.out⟩

set_option maxRecDepth 100000 in
theorem clos_72 (x : Int) (w : World) : Calls Tryz.prog 72 #[.int .i64 x] w fun e w' => e = .returned (.bool (!ri3 0 x 1073741824)) ∧ Below w.heap.size w w' := by
  go_enter Tryz.func72, Tryz.ntmps72
  go_wp2_with fail
  refine (in_38 _ _ _).mono ?_
  rintro e u ⟨rfl, rfl⟩
  go_wp2_with fail
  go_ret
  exact ⟨ret_bool (by simp), Below.refl _ _⟩
theorem eg_72 : ∀ args w, (callFunc 72 args).run Tryz.prog w = .ok (.enter 72 args) w := enters_of Tryz.func72 (by kernel_rfl) rfl
set_option maxRecDepth 100000 in
theorem right_54 (t : Int) (A : Option Addr) (n c B : Nat) (f : Nat → Int) (w : World) (hn : n ≤ 600) (ht : 0 ≤ t ∧ t ≤ 1099511627776) (hB : B ≤ w.heap.size) (hr : Rd w B A n (fun j => .int .i64 (f j))) (hf : ∀ j, j < n → 0 ≤ f j ∧ f j ≤ 1073741824) :
    Calls Tryz.prog 54 #[.int .i64 t, .slice A n c] w fun e w' => e = .returned (.int .i64 0) ∧ Below w.heap.size w w' := by
  have HA := any_66 A n c B 72 #[] f (fun j => !ri3 0 (f j) 1073741824) w eg_72 (by omega) hB hr (fun j _ W _ => clos_72 (f j) W)
  rw [anyB_false.2 (fun j hj => by rw [Bool.not_eq_false', ri3_iff]; exact hf j hj)] at HA
  have HA := Lib.hid HA
  clear hr hf
  have h6 : ¬ ((600 : Int) < (n : Int)) := by omega
  go_enter Tryz.func54, Tryz.ntmps54
  go_wp2_with fail
  refine (in_yes _ _ _ ht.1 ht.2).mono ?_
  rintro e u ⟨rfl, rfl⟩
  go_wp2_with fail
  refine HA.out.mono ?_
  rintro e w1 ⟨rfl, hb⟩
  have HB1 := Lib.hid hb
  clear hb HA
  go_wp2_with fail
  go_ret
  exact ⟨rfl, HB1.out⟩
end Go.Proofs.YtonkjnkokikpgaaGreat
