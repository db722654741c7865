/- Contract of Few. -/
import Derived.Test.YtbojjhdcmogjdaaBook
import Derived.Test.YtbojjhdcmogjdaaGrow
namespace Go.Proofs.Ytbojjhdcmogjdaa
open Go.RowKit

set_option maxRecDepth 100000 in
set_option maxHeartbeats 4000000 in
theorem Few_10 {SA CA : Option Addr} {sn sc n cc : Nat} {S no hr wi : Nat → Int} {FA RA : Nat → Option Addr} {fn fc rn rc : Nat → Nat} {F R : Nat → Nat → Int} (B : Nat) (w : World) (hn : n ≤ 9223372036854775807) (hB : B ≤ w.heap.size) (hr0 : RdK w B SA sn S CA n no hr wi FA fn fc F RA rn rc R) :
    Calls Try.prog 10 #[(.agg #[.slice SA sn sc, .slice CA n cc])] w fun e w' => (∃ b, e = .returned (.bool b) ∧ (b = true → SmK sn n fn rn)) ∧ Below w.heap.size w w' := by
  have HR := Lib.hid hr0
  clear hr0
  obtain ⟨w0, hw0⟩ : ∃ zz, zz = w.alloc (.cells #[.slice SA sn sc, .slice CA n cc] 25) := ⟨_, rfl⟩
  have HK0 : Hid (Blk w0 w.heap.size 25 #[.slice SA sn sc, .slice CA n cc]) := Lib.hid (hw0 ▸ Blk.new _ _ _)
  have HB0 : Hid (Below w.heap.size w w0) := Lib.hid (hw0 ▸ below_alloc _ _)
  have HW := Lib.hid hw0
  clear hw0
  have hs0 := HK0.out.lt
  have cb0 : w0.cell? ⟨w.heap.size, 0, none⟩ = some (.slice SA sn sc) := HK0.out.cell 0
  have cb1 : w0.cell? ⟨w.heap.size, 1, none⟩ = some (.slice CA n cc) := HK0.out.cell 1
  have HNO : Hid (∀ w', Below w.heap.size w w' → (∃ b, Ending.returned (.bool false) = .returned (.bool b) ∧ (b = true → SmK sn n fn rn)) ∧ Below w.heap.size w w') := Lib.hid fun w' h => ⟨⟨false, rfl, fun h => by cases h⟩, h⟩
  go_enter Try.func10, Try.ntmps10
  go_upto_region 1 with fail
  rw [← HW.out]
  by_cases h1 : 100 < n
  · have h1' : (100 : Int) < n := by omega
    go_wp2_with fail
    go_ret
    exact HNO.out _ HB0.out
  have h1' : (n : Int) ≤ 100 := by omega
  by_cases h2 : 100 < sn
  · have h2' : (100 : Int) < sn := by omega
    go_wp2_with fail
    go_ret
    exact HNO.out _ HB0.out
  have h2' : (sn : Int) ≤ 100 := by omega
  go_wp2_with fail
  go_loopw [3] (fun i wr => ∃ k : Nat, k ≤ n ∧ i = .int .i64 k ∧ Hid (∀ j, j < k → fn j ≤ 60 ∧ rn j ≤ 60) ∧ wr = w0) (fun i _ => n - (intOf i).toNat)
  case atStart => exact ⟨0, Nat.zero_le _, rfl, Lib.hid fun j hj => absurd hj (by omega), rfl⟩
  case round =>
    obtain ⟨k, hk, rfl, HK, rfl⟩ := hrel
    by_cases hlt : k < n
    · have hlt' : (k : Int) < n := by omega
      obtain ⟨b, o, e, _, k0, k1, k2, k3, k4⟩ := (HR.out.below (HB0.out.mono hB)).at_ hlt
      subst e
      by_cases h3 : 60 < fn k
      · have h3' : (60 : Int) < fn k := by omega
        go_wp2_with fail
        go_ret
        exact HNO.out _ HB0.out
      have h3' : (fn k : Int) ≤ 60 := by omega
      by_cases h4 : 60 < rn k
      · have h4' : (60 : Int) < rn k := by omega
        go_wp2_with fail
        go_ret
        exact HNO.out _ HB0.out
      have h4' : (rn k : Int) ≤ 60 := by omega
      have HV : Hid (∀ j, j < k + 1 → fn j ≤ 60 ∧ rn j ≤ 60) := Lib.hid fun j hj => by
        by_cases e : j = k
        · subst e; omega
        · exact HK.out j (by omega)
      go_wp2_with fail
      go_roundw
      case rel => exact ⟨k + 1, by omega, by go_num, HV, trivial⟩
      case measure => simp [intOf]; omega
    · obtain rfl : k = n := by omega
      go_wp2_with fail
      go_ret
      exact ⟨⟨true, rfl, fun _ => ⟨by omega, by omega, HK.out⟩⟩, HB0.out⟩
end Go.Proofs.Ytbojjhdcmogjdaa
