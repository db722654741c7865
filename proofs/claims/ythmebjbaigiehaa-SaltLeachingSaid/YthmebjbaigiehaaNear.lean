/- Contract of near, where it holds. -/
import Derived.Test.YthmebjbaigiehaaBasic
namespace Go.Proofs.Ythmebjbaigiehaa
open Go.RowKit

set_option maxRecDepth 100000 in
set_option maxHeartbeats 4000000 in
theorem near_24 (s a k n : Int) (w : World) (h1 : 0 ≤ s * n ∧ s * n ≤ 2305843009213693952) (h2 : 0 ≤ a * k ∧ a * k ≤ 2305843009213693952) (hn : 0 < n ∧ n ≤ 4294967296) (hd : -n < s * n - a * k ∧ s * n - a * k < n) :
    Calls Try.prog 24 #[.int .i64 s, .int .i64 a, .int .i64 k, .int .i64 n] w fun e w' => e = .returned (.bool true) ∧ w = w' := by
  obtain ⟨d1, d2⟩ := hd
  have e1 : IntKind.i64.wrap (s * n) = s * n := IntWalk.i64_in _ ⟨by omega, by omega⟩
  have e2 : IntKind.i64.wrap (a * k) = a * k := IntWalk.i64_in _ ⟨by omega, by omega⟩
  have e3 : IntKind.i64.wrap (s * n - a * k) = s * n - a * k := IntWalk.i64_in _ ⟨by omega, by omega⟩
  have e4 : IntKind.i64.wrap (-n) = -n := IntWalk.i64_in _ ⟨by omega, by omega⟩
  go_enter Try.func24, Try.ntmps24
  go_wp2_with fail
  go_ret
  exact ⟨rfl, rfl⟩
end Go.Proofs.Ythmebjbaigiehaa
