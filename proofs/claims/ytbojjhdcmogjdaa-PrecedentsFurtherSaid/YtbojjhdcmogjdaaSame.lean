/- Contract of Same, where both lists are the same. -/
import Derived.Test.YtbojjhdcmogjdaaBasic
namespace Go.Proofs.Ytbojjhdcmogjdaa
open Go.RowKit

set_option maxRecDepth 100000 in
set_option maxHeartbeats 4000000 in
theorem Same_21 (A A' : Option Addr) (n c c' B : Nat) (f : Nat → Int) (w : World) (hm : n ≤ 9223372036854775807) (h1 : Rd w B A n (fun j => .int .i64 (f j))) (h2 : Rd w B A' n (fun j => .int .i64 (f j))) :
    Calls Try.prog 21 #[.slice A n c, .slice A' n c'] w fun e w' => e = .returned (.bool true) ∧ ∃ k, w' = w.drewN k := by
  have H1 := Lib.hid h1
  have H2 := Lib.hid h2
  clear h1 h2
  go_enter Try.func21, Try.ntmps21
  go_wp2_with fail
  go_loopw [5] (fun i wr => ∃ k : Nat, k ≤ n ∧ i = .int .i64 k ∧ ∃ m, wr = w.drewN m) (fun i _ => n - (intOf i).toNat)
  case atStart => exact ⟨0, Nat.zero_le _, rfl, 0, rfl⟩
  case round =>
    obtain ⟨k, hk, rfl, m, rfl⟩ := hrel
    by_cases hlt : k < n
    · have hlt' : (k : Int) < n := by omega
      have HX := Lib.hid (Rd.drewN H1.out m)
      have HY := Lib.hid (Rd.drewN H2.out m)
      have HQ : Hid (∀ q, ∃ r, (w.drewN m).drewN q = w.drewN r) := Lib.hid fun q => ⟨m + q, by simp [World.drewN_drewN]⟩
      generalize w.drewN m = w1 at *
      obtain ⟨b1, o1, rfl, _, cs1⟩ := HX.out (by omega)
      obtain ⟨b2, o2, rfl, _, cs2⟩ := HY.out (by omega)
      have c1 := cs1 k hlt
      have c2 := cs2 k hlt
      clear cs1 cs2
      go_upto_region 6 with fail
      go_quiet (fail)
      go_wp2_with fail
      exact ⟨⟨k + 1, by omega, by go_num, HQ.out _⟩, by simp [intOf]; omega⟩
    · obtain rfl : k = n := by omega
      go_wp2_with fail
      go_ret
      exact ⟨rfl, _, rfl⟩
end Go.Proofs.Ytbojjhdcmogjdaa
