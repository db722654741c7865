/- sort.Search with a closure that may lay blocks: which place it finds. -/
import Derived.Test.YtnmocdfogdcliaaBase
import Derived.Sort.Walk0
import Derived.Shelf.Abstract
namespace Go.Proofs.Ytnmocdfogdcliaa
open Go.RowKit

set_option maxRecDepth 100000 in
set_option maxHeartbeats 2000000 in
theorem search (g : Nat) (cb : Array Value) (n k : Nat) (w : World) (eg : ∀ args w, (callFunc g args).run Try.prog w = .ok (.enter g args) w) (hn : n < 4611686018427387904) (hk : k ≤ n)
    (hf : ∀ (W : World) (i : Nat), Below w.heap.size w W → i < n → Calls Try.prog g (#[.int .i64 i] ++ cb) W fun e W' => e = .returned (.bool (decide (k ≤ i))) ∧ Below W.heap.size W W') :
    Calls Try.prog 45 #[.int .i64 n, .func (.func g) #[] cb] w fun e w' => e = .returned (.int .i64 k) ∧ Below w.heap.size w w' := by
  have HF := Lib.hid hf
  clear hf
  go_enter Try.func45, Try.ntmps45
  go_wp2_with fail
  go_loopw [5, 6] (fun s5 s6 wr => ∃ (lo hi : Nat), s5 = .int .i64 lo ∧ s6 = .int .i64 hi ∧ lo ≤ k ∧ k ≤ hi ∧ hi ≤ n ∧ Below w.heap.size w wr) (fun s5 s6 _ => (intOf s6).toNat - (intOf s5).toNat)
  case atStart => exact ⟨0, n, rfl, rfl, Nat.zero_le _, hk, Nat.le_refl _, Below.refl _ _⟩
  case round =>
    obtain ⟨lo, hi, rfl, rfl, hlo, hhi, hin, hb⟩ := hrel
    have HB := Lib.hid hb
    clear hb
    by_cases hlt : lo < hi
    · have hc := HF.out wr ((lo + hi) / 2) HB.out (by omega)
      rw [show (((lo + hi) / 2 : Nat) : Int) = ((lo : Int) + (hi : Int)) / 2 by omega] at hc
      by_cases hp : k ≤ (lo + hi) / 2
      · have HP := Lib.hid (show decide (k ≤ (lo + hi) / 2) = true by simpa using hp)
        rw [HP.out] at hc
        have HC := Lib.hid hc
        clear hc
        go_wp2_with (go_at_fn g; refine HC.out.mono ?_; rintro e w' ⟨rfl, hb'⟩; have HB' := Lib.hid (below_then HB.out hb' (Nat.le_refl _)); clear hb')
        go_roundw
        case rel => exact ⟨lo, (lo + hi) / 2, rfl, by rw [show ((lo : Int) + (hi : Int)) / 2 = (((lo + hi) / 2 : Nat) : Int) by omega], hlo, hp, by omega, HB'.out⟩
        case measure => simp [intOf]; omega
      · have HP := Lib.hid (show decide (k ≤ (lo + hi) / 2) = false by simpa using hp)
        rw [HP.out] at hc
        have HC := Lib.hid hc
        clear hc
        go_wp2_with (go_at_fn g; refine HC.out.mono ?_; rintro e w' ⟨rfl, hb'⟩; have HB' := Lib.hid (below_then HB.out hb' (Nat.le_refl _)); clear hb')
        go_roundw
        case rel => exact ⟨(lo + hi) / 2 + 1, hi, by rw [show ((lo : Int) + (hi : Int)) / 2 + 1 = (((lo + hi) / 2 + 1 : Nat) : Int) by omega], rfl, by omega, hhi, hin, HB'.out⟩
        case measure => simp [intOf]; omega
    · obtain rfl : lo = k := by omega
      go_wp2_with fail
      go_ret
      exact ⟨rfl, HB.out⟩
end Go.Proofs.Ytnmocdfogdcliaa
