/- Contracts of the small functions: bounds, lists and sets of factors. -/
import Derived.Test.YtbojjhdcmogjdaaModel
import Derived.IntWalk
import Derived.Deep.QuietTactic
import Derived.BigQuiet
import Derived.Laws.Rows
import Derived.RegionTactic
import Derived.BigRegion
import Derived.Laws.ResultCell
import Derived.Maps.AppendAt
import Derived.Deep.AppendLies
import Derived.Deep.RegionHeld3
import Derived.Deep.DeepCutAuto
namespace Go.Proofs.Ytbojjhdcmogjdaa
open Go.RowKit

theorem quiet_l {P : Program} {f : FuncId} {args : Array Value} {w : World} {n : Nat} {v : Value}
    (h : Calls P f args (w.drewN n) fun e w' => e = .returned v ∧ w.drewN n = w') : Calls P f args (w.drewN n) fun e w'' => e = .returned v ∧ ∃ m, w'' = w.drewN m :=
  h.mono fun _ _ ⟨he, hm⟩ => ⟨he, n, hm.symm⟩

set_option maxRecDepth 100000 in
theorem within_30 (n lo hi : Int) (w : World) : Calls Try.prog 30 #[.int .i64 n, .int .i64 lo, .int .i64 hi] w fun e w' => e = .returned (.bool (decide (lo ≤ n) && decide (n ≤ hi))) ∧ w = w' := by
  by_cases h1 : lo ≤ n
  · by_cases h2 : n ≤ hi
    · go_enter Try.func30, Try.ntmps30
      go_wp2_with fail
      go_ret
      exact ⟨ret_bool (by simp [h1, h2]), rfl⟩
    · have h2' : hi < n := by omega
      go_enter Try.func30, Try.ntmps30
      go_wp2_with fail
      go_ret
      exact ⟨ret_bool (by simp; omega), rfl⟩
  · have h1' : n < lo := by omega
    go_enter Try.func30, Try.ntmps30
    go_wp2_with fail
    go_ret
    exact ⟨ret_bool (by simp; omega), rfl⟩
theorem within_0 (most a : Int) (w : World) : Calls Try.prog 30 #[.int .i64 a, .int .i64 0, .int .i64 most] w fun e w' => e = .returned (.bool (inB most a)) ∧ w = w' := within_30 a 0 most w

set_option maxRecDepth 100000 in
theorem within_41 (n most : Int) (w : World) : Calls Try.prog 41 #[.int .i64 n, .int .i64 most] w fun e w' => e = .returned (.bool (inB most n)) ∧ w = w' := by
  by_cases h1 : 0 ≤ n
  · by_cases h2 : n ≤ most
    · go_enter Try.func41, Try.ntmps41
      go_wp2_with fail
      go_ret
      exact ⟨ret_bool (by simp [inB, h1, h2]), rfl⟩
    · have h2' : most < n := by omega
      go_enter Try.func41, Try.ntmps41
      go_wp2_with fail
      go_ret
      exact ⟨ret_bool (by simp [inB]; omega), rfl⟩
  · have h1' : n < 0 := by omega
    go_enter Try.func41, Try.ntmps41
    go_wp2_with fail
    go_ret
    exact ⟨ret_bool (by simp [inB]; omega), rfl⟩

set_option maxRecDepth 100000 in
theorem in_35 (a b : Nat) (w : World) (ha : a < 18446744073709551616) (hb : b < 18446744073709551616) : Calls Try.prog 35 #[.int .u64 a, .int .u64 b] w fun e w' => e = .returned (.bool (subB a b)) ∧ w = w' := by
  have hbits := u64_andNot_nat a b ha hb
  obtain ⟨x, hx⟩ : ∃ x, x = a &&& (18446744073709551615 - b) := ⟨_, rfl⟩
  have HV : Hid (subB a b = decide (x = 0)) := Lib.hid (by rw [subB, hx])
  rw [← hx] at hbits
  clear hx
  by_cases h : x = 0
  · subst h
    go_enter Try.func35, Try.ntmps35
    go_wp2_with fail
    go_ret
    exact ⟨ret_bool (by rw [HV.out]; simp), rfl⟩
  · have h' : ((x : Int) == 0) = false := by simp; omega
    go_enter Try.func35, Try.ntmps35
    go_wp2_with fail
    go_ret
    exact ⟨ret_bool (by rw [HV.out]; simp; omega), rfl⟩

set_option maxRecDepth 100000 in
theorem has_40 (A : Option Addr) (m c B : Nat) (f : Nat → Int) (x : Int) (w : World) (hm : m ≤ 9223372036854775807) (hr : Rd w B A m (fun j => .int .i64 (f j))) :
    Calls Try.prog 40 #[.slice A m c, .int .i64 x] w fun e w' => e = .returned (.bool (hasB f x m)) ∧ w = w' := by
  have HR := Lib.hid hr
  clear hr
  go_enter Try.func40, Try.ntmps40
  go_wp2_with fail
  go_loopw [5] (fun i wr => ∃ k : Nat, k ≤ m ∧ i = .int .i64 k ∧ Hid (hasB f x k = false) ∧ wr = w) (fun i _ => m - (intOf i).toNat)
  case atStart => exact ⟨0, Nat.zero_le _, rfl, Lib.hid rfl, rfl⟩
  case round =>
    obtain ⟨k, hk, rfl, HK, rfl⟩ := hrel
    by_cases hlt : k < m
    · have hlt' : (k : Int) < m := by omega
      obtain ⟨b, o, e, _, cs⟩ := HR.out (by omega)
      have ck := cs k hlt
      subst e
      clear cs
      by_cases h1 : f k = x
      · have HV := Lib.hid ((hasB_iff (f := f) (x := x) m).2 ⟨k, hlt, h1⟩)
        subst h1
        go_wp2_with fail
        go_ret
        exact ⟨ret_bool HV.out.symm, rfl⟩
      · have h1' : (f k == x) = false := by simpa using h1
        have HV : Hid (hasB f x (k + 1) = false) := Lib.hid (by rw [hasB, HK.out]; simpa using h1)
        clear h1
        go_wp2_with fail
        go_roundw
        case rel => exact ⟨k + 1, by omega, by go_num, HV, trivial⟩
        case measure => simp [intOf]; omega
    · obtain rfl : k = m := by omega
      go_wp2_with fail
      go_ret
      exact ⟨ret_bool HK.out.symm, rfl⟩

set_option maxRecDepth 100000 in
theorem All_24 (A A' : Option Addr) (m c m' c' B : Nat) (f g : Nat → Int) (w : World) (hm : m ≤ 9223372036854775807) (hm' : m' ≤ 9223372036854775807) (hr : Rd w B A m (fun j => .int .i64 (f j))) (hr' : Rd w B A' m' (fun j => .int .i64 (g j))) :
    Calls Try.prog 24 #[.slice A m c, .slice A' m' c'] w fun e w' => e = .returned (.bool (allB f g m' m)) ∧ w = w' := by
  have HR := Lib.hid hr
  have HH : Hid (∀ x, Calls Try.prog 40 #[.slice A' m' c', .int .i64 x] w fun e w' => e = .returned (.bool (hasB g x m')) ∧ w = w') := Lib.hid fun x => has_40 A' m' c' B g x w hm' hr'
  clear hr hr'
  go_enter Try.func24, Try.ntmps24
  go_wp2_with fail
  go_loopw [5] (fun i wr => ∃ k : Nat, k ≤ m ∧ i = .int .i64 k ∧ Hid (allB f g m' k = true) ∧ wr = w) (fun i _ => m - (intOf i).toNat)
  case atStart => exact ⟨0, Nat.zero_le _, rfl, Lib.hid rfl, rfl⟩
  case round =>
    obtain ⟨k, hk, rfl, HK, rfl⟩ := hrel
    by_cases hlt : k < m
    · have hlt' : (k : Int) < m := by omega
      obtain ⟨b, o, e, _, cs⟩ := HR.out (by omega)
      have ck := cs k hlt
      subst e
      clear cs
      go_wp2_with fail
      refine (HH.out _).mono ?_
      rintro e w' ⟨rfl, rfl⟩
      cases h1 : hasB g (f k) m'
      · have HV := Lib.hid (allB_bad h1 m hlt)
        go_wp2_with fail
        go_ret
        exact ⟨ret_bool HV.out.symm, rfl⟩
      · have HV : Hid (allB f g m' (k + 1) = true) := Lib.hid (by rw [allB, HK.out, h1]; rfl)
        go_wp2_with fail
        go_roundw
        case rel => exact ⟨k + 1, by omega, by go_num, HV, trivial⟩
        case measure => simp [intOf]; omega
    · obtain rfl : k = m := by omega
      go_wp2_with fail
      go_ret
      exact ⟨ret_bool HK.out.symm, rfl⟩

theorem or_bit (a n : Nat) (ha : a < 2 ^ 32) (hn : n < 32) : bits .or .u64 (a : Int) (IntKind.u64.wrap (2 ^ n)) = ((a ||| 2 ^ n : Nat) : Int) := by
  have h1 : 2 ^ n < 2 ^ 32 := two_pow_le hn
  have h2 : IntKind.u64.wrap ((2 : Int) ^ n) = ((2 ^ n : Nat) : Int) := by
    have e : (2 : Int) ^ n = ((2 ^ n : Nat) : Int) := by simp
    rw [e]
    generalize 2 ^ n = q at h1
    exact IntWalk.u64_in _ ⟨by omega, by omega⟩
  rw [h2]
  generalize 2 ^ n = q at h1
  exact u64_or_nat a q (by omega) (by omega)
/-- what came last -/
def lastF (f : Nat → Int) (k : Nat) : Int := if k = 0 then -1 else f (k - 1)
/-- what of hands back -/
def ofV (M : Int) (f : Nat → Int) (m : Nat) : Value := .tuple #[.int .u64 ((if okS M f m = true then mask f m else 0 : Nat) : Int), .bool (okS M f m)]
theorem ofV_ok {M : Int} {f : Nat → Int} {m : Nat} (h : okS M f m = true) : ofV M f m = .tuple #[.int .u64 (mask f m), .bool true] := by rw [ofV, h, if_pos rfl]
theorem ofV_bad {M : Int} {f : Nat → Int} {m : Nat} (h : okS M f m = false) : ofV M f m = .tuple #[.int .u64 0, .bool false] := by rw [ofV, h, if_neg (by simp)]; rfl
set_option maxRecDepth 100000 in
theorem of_39 (A : Option Addr) (m c B : Nat) (f : Nat → Int) (M : Nat) (w : World) (hM : M ≤ 32) (hm : m ≤ 9223372036854775807) (hr : Rd w B A m (fun j => .int .i64 (f j))) :
    Calls Try.prog 39 #[.slice A m c, .int .i64 M] w fun e w' => e = .returned (ofV M f m) ∧ w = w' := by
  have HR := Lib.hid hr
  clear hr
  go_enter Try.func39, Try.ntmps39
  go_wp2_with fail
  go_loopw [4, 6, 11] (fun s l i wr => ∃ k : Nat, k ≤ m ∧ i = .int .i64 k ∧ s = .int .u64 (mask f k) ∧ l = .int .i64 (lastF f k) ∧ Hid (okS M f k = true) ∧ wr = w) (fun _ _ i _ => m - (intOf i).toNat)
  case atStart => exact ⟨0, Nat.zero_le _, rfl, rfl, rfl, Lib.hid rfl, rfl⟩
  case round =>
    obtain ⟨k, hk, rfl, rfl, rfl, HK, rfl⟩ := hrel
    by_cases hlt : k < m
    · have hlt' : (k : Int) < m := by omega
      obtain ⟨b, o, e, _, cs⟩ := HR.out (by omega)
      have ck := cs k hlt
      subst e
      clear cs
      have hl0 : -1 ≤ lastF f k := by
        unfold lastF
        split
        · omega
        · have := (okS_at k HK.out (k - 1) (by omega)).1; omega
      by_cases h1 : fitB M f k = true
      · obtain ⟨⟨f0, f1⟩, f2⟩ := fitB_iff.1 h1
        have hl1 : ¬ f k ≤ lastF f k := by
          unfold lastF
          split
          · omega
          · exact fun h => by have := f2.resolve_left (by assumption); omega
        have f3 : ¬ (M : Int) ≤ f k := by omega
        have HBT : Hid (bits .or .u64 (mask f k : Int) (IntKind.u64.wrap (2 ^ (f k).toNat)) = ((mask f k ||| 2 ^ (f k).toNat : Nat) : Int)) := Lib.hid (or_bit _ _ (Nat.lt_of_lt_of_le (mask_lt (M := M) k fun j hj => (okS_at k HK.out j hj).1) (Nat.pow_le_pow_right (by omega) hM)) (by omega))
        go_wp2_with fail
        go_roundw
        case rel => exact ⟨k + 1, by omega, by go_num, by rw [HBT.out, mask], by simp [lastF], Lib.hid (by rw [okS, HK.out, h1]; rfl), trivial⟩
        case measure => simp [intOf]; omega
      · have HV : Hid (okS M f m = false) := Lib.hid (okS_bad (by simpa using h1) m hlt)
        have h2 : f k ≤ lastF f k ∨ (M : Int) ≤ f k := by
          by_cases h3 : (M : Int) ≤ f k
          · exact .inr h3
          · refine .inl (Decidable.byContradiction fun h4 => h1 (fitB_iff.2 ⟨⟨by omega, by omega⟩, ?_⟩))
            unfold lastF at h4
            split at h4
            · exact .inl (by assumption)
            · exact .inr (by omega)
        by_cases h3 : f k ≤ lastF f k
        · go_wp2_with fail
          refine bodyPost_ret (results_tmp2 rfl _ _ _) rfl ?_
          exact ⟨ret_val (ofV_bad HV.out).symm, rfl⟩
        · have h4 := h2.resolve_left h3
          go_wp2_with fail
          refine bodyPost_ret (results_tmp2 rfl _ _ _) rfl ?_
          exact ⟨ret_val (ofV_bad HV.out).symm, rfl⟩
    · obtain rfl : k = m := by omega
      go_wp2_with fail
      refine bodyPost_ret (results_tmp2 rfl _ _ _) rfl ?_
      exact ⟨ret_val (ofV_ok HK.out).symm, rfl⟩
end Go.Proofs.Ytbojjhdcmogjdaa
