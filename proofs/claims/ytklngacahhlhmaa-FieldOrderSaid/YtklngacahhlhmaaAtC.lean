/- Contracts of both interpolations at any number of points. No condition on them. -/
import Derived.Test.YtklngacahhlhmaaAtB
namespace Go.Proofs.Ytklngacahhlhmaa
open Go.RowKit
open Pl (inv eQ Cg sumN prodN lagr)

/-- the error and the value of At -/
def eAt (n : Nat) (X : Nat → Int) : Int := if 64 < n then 2 else if distB X n = true then 0 else 90
def vAt (n : Nat) (X Y : Nat → Int) (t : Int) : Int := if 64 < n then 0 else if distB X n = true then lagr n X Y t % 1073741789 else 0

set_option maxRecDepth 100000 in
set_option maxHeartbeats 400000 in
theorem at_19_many (A : Option Addr) (n c : Nat) (t : Int) (w : World) (hn : 64 < n) (hm : n ≤ 9223372036854775807) :
    Calls Try.prog 19 #[.slice A n c, .int .i64 t] w fun e w' => e = .returned (.tuple #[.int .i64 0, .int .i64 2]) ∧ Below w.heap.size w w' := by
  have h1 : (64 : Int) < n := by omega
  go_enter Try.func19, Try.ntmps19
  go_wp2_with fail
  go_ret2
  exact ⟨rfl, below_alloc _ _⟩

theorem at_19 (A : Option Addr) (n c B : Nat) (X Y : Nat → Int) (t : Int) (w : World) (hm : n ≤ 9223372036854775807) (hB : B ≤ w.heap.size) (hr : n ≤ 64 → RdP w B A n X Y) (hx : ∀ j, I64 (X j)) (hy : ∀ j, I64 (Y j)) (ht : I64 t) :
    Calls Try.prog 19 #[.slice A n c, .int .i64 t] w fun e w' => e = .returned (.tuple #[.int .i64 (vAt n X Y t), .int .i64 (eAt n X)]) ∧ Below w.heap.size w w' := by
  unfold vAt eAt
  by_cases hn : 64 < n
  · rw [if_pos hn, if_pos hn]; exact at_19_many A n c t w hn hm
  · rw [if_neg hn, if_neg hn]
    by_cases hd : distB X n = true
    · rw [if_pos hd, if_pos hd]; exact at_19_ok A n c B X Y t w (by omega) hB (hr (by omega)) hx hy ht hd
    · rw [if_neg hd, if_neg hd]; exact at_19_same A n c B X Y t w (by omega) hB (hr (by omega)) (fun j _ => hx j) (by simpa using hd)

set_option maxRecDepth 100000 in
set_option maxHeartbeats 400000 in
theorem at_20_many (A : Option Addr) (n c : Nat) (t : Int) (w : World) (hn : 64 < n) (hm : n ≤ 9223372036854775807) :
    Calls Try.prog 20 #[.slice A n c, .int .i64 t] w fun e w' => e = .returned (.tuple #[.int .i64 0, .int .i64 2]) ∧ ∃ m, w' = w.drewN m := by
  have h1 : (64 : Int) < n := by omega
  go_enter Try.func20, Try.ntmps20
  go_wp2_with fail
  go_ret2
  exact ⟨rfl, quiet_refl _⟩

set_option maxRecDepth 100000 in
set_option maxHeartbeats 400000 in
theorem at_20_same (A : Option Addr) (n c B : Nat) (X Y : Nat → Int) (t : Int) (w : World) (hn : n ≤ 64) (hr : RdP w B A n X Y) (hx : ∀ j, I64 (X j)) (hd : distB X n = false) :
    Calls Try.prog 20 #[.slice A n c, .int .i64 t] w fun e w' => e = .returned (.tuple #[.int .i64 0, .int .i64 90]) ∧ ∃ m, w' = w.drewN m := by
  have HX := Lib.hid hx
  have HR := Lib.hid hr
  have HD := Lib.hid hd
  clear hr hx hd
  go_enter Try.func20, Try.ntmps20
  go_wp2_with fail
  refine (diff_24 A n c B X Y _ (by omega) HR.out (fun j _ => HX.out j)).mono ?_
  rintro e w1 ⟨rfl, hm⟩
  rw [HD.out]
  have HW1 := Lib.hid hm
  clear hm
  go_wp2_with fail
  go_ret2
  exact ⟨rfl, HW1.out⟩

theorem at_20_any (A : Option Addr) (n c B : Nat) (X Y : Nat → Int) (t : Int) (w : World) (hm : n ≤ 9223372036854775807) (hr : n ≤ 64 → RdP w B A n X Y) (hx : ∀ j, I64 (X j)) (hy : ∀ j, I64 (Y j)) (ht : I64 t) :
    Calls Try.prog 20 #[.slice A n c, .int .i64 t] w fun e w' => e = .returned (.tuple #[.int .i64 (vAt n X Y t), .int .i64 (eAt n X)]) ∧ ∃ m, w' = w.drewN m := by
  unfold vAt eAt
  by_cases hn : 64 < n
  · rw [if_pos hn, if_pos hn]; exact at_20_many A n c t w hn hm
  · rw [if_neg hn, if_neg hn]
    by_cases hd : distB X n = true
    · rw [if_pos hd, if_pos hd]; exact at_20 A n c B X Y t w (by omega) (hr (by omega)) (fun j _ => hx j) (fun j _ => hy j) ht hd
    · rw [if_neg hd, if_neg hd]; exact at_20_same A n c B X Y t w (by omega) (hr (by omega)) hx (by simpa using hd)

set_option maxHeartbeats 400000 in
theorem in_23 (n : Int) (w : World) (h : 0 ≤ n ∧ n < 1073741789) : Calls Try.prog 23 #[.int .i64 n] w fun e w' => e = .returned (.bool true) ∧ w = w' := by
  obtain ⟨h1, h2⟩ := h
  go_enter Try.func23, Try.ntmps23
  go_wp2_with fail
  go_ret
  exact ⟨rfl, rfl⟩

end Go.Proofs.Ytklngacahhlhmaa
