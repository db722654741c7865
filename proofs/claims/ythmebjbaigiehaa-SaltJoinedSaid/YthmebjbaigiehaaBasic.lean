/- Contracts of the small functions: limits, sums, right water, shares. -/
import Derived.Test.YthmebjbaigiehaaModel
import Derived.IntWalk
import Derived.Deep.QuietTactic
import Derived.BigQuiet
import Derived.Laws.Rows
namespace Go.Proofs.Ythmebjbaigiehaa
open Go.RowKit

set_option maxRecDepth 100000 in
theorem limited_27 (A : Option Addr) (m c B : Nat) (f : Nat → Int) (w : World) (hm : m ≤ 9223372036854775807) (hr : Rd w B A m (fun j => .int .i64 (f j))) :
    Calls Try.prog 27 #[.slice A m c] w fun e w' => e = .returned (.bool (limB f m)) ∧ w = w' := by
  have HR := Lib.hid hr
  clear hr
  go_enter Try.func27, Try.ntmps27
  go_wp2_with fail
  go_loopw [7] (fun i wr => ∃ k : Nat, k ≤ m ∧ i = .int .i64 k ∧ Hid (limB f k = true) ∧ wr = w) (fun i _ => m - (intOf i).toNat)
  case atStart => exact ⟨0, Nat.zero_le _, rfl, Lib.hid rfl, rfl⟩
  case round =>
    obtain ⟨k, hk, rfl, HK, rfl⟩ := hrel
    by_cases hlt : k < m
    · have hlt' : (k : Int) < m := by omega
      obtain ⟨b, o, e, _, cs⟩ := HR.out (by omega)
      have ck := cs k hlt
      subst e
      clear cs
      by_cases h1 : f k < 0
      · have HV := Lib.hid (limB_bad (inB_not.2 (.inl h1)) m hlt)
        go_wp2_with fail
        go_ret
        exact ⟨ret_bool HV.out.symm, rfl⟩
      · have h1' : 0 ≤ f k := by omega
        by_cases h2 : 1073741824 < f k
        · have HV := Lib.hid (limB_bad (inB_not.2 (.inr h2)) m hlt)
          go_wp2_with fail
          go_ret
          exact ⟨ret_bool HV.out.symm, rfl⟩
        · have h2' : f k ≤ 1073741824 := by omega
          go_wp2_with fail
          go_roundw
          case rel => exact ⟨k + 1, by omega, by go_num, Lib.hid (by rw [limB, HK.out, inB_iff.2 ⟨h1', h2'⟩]; rfl), trivial⟩
          case measure => simp [intOf]; omega
    · obtain rfl : k = m := by omega
      go_wp2_with fail
      go_ret
      exact ⟨ret_bool HK.out.symm, rfl⟩

set_option maxRecDepth 100000 in
theorem total_26 (A : Option Addr) (m c B : Nat) (f : Nat → Int) (w : World) (hm : m ≤ 1000) (hr : Rd w B A m (fun j => .int .i64 (f j))) (hf : ∀ k, k < m → 0 ≤ f k ∧ f k ≤ 1073741824) :
    Calls Try.prog 26 #[.slice A m c] w fun e w' => e = .returned (.int .i64 (sm f m)) ∧ w = w' := by
  have HR := Lib.hid hr
  have HF := Lib.hid hf
  clear hr hf
  go_enter Try.func26, Try.ntmps26
  go_wp2_with fail
  go_loopw [2, 7] (fun n i wr => ∃ k : Nat, k ≤ m ∧ i = .int .i64 k ∧ n = .int .i64 (sm f k) ∧ wr = w) (fun _ i _ => m - (intOf i).toNat)
  case atStart => exact ⟨0, Nat.zero_le _, rfl, rfl, rfl⟩
  case round =>
    obtain ⟨k, hk, rfl, rfl, rfl⟩ := hrel
    by_cases hlt : k < m
    · have hlt' : (k : Int) < m := by omega
      obtain ⟨b, o, e, _, cs⟩ := HR.out (by omega)
      have ck := cs k hlt
      subst e
      clear cs
      have h1 := sm_nonneg (f := f) k (fun q hq => (HF.out q (by omega)).1)
      have h2 := sm_le (f := f) (c := 1073741824) k (fun q hq => (HF.out q (by omega)).2)
      have h3 := HF.out k hlt
      obtain ⟨h4, h5⟩ := h3
      have HS : Hid (sm f (k + 1) = sm f k + f k) := Lib.hid rfl
      go_wp2_with fail
      go_roundw
      case rel => exact ⟨k + 1, by omega, by go_num, by rw [HS.out], trivial⟩
      case measure => simp [intOf]; omega
    · obtain rfl : k = m := by omega
      go_wp2_with fail
      go_ret
      exact ⟨rfl, rfl⟩

theorem two_cells (a b : Int) : ∀ j, j < #[Value.int .i64 a, Value.int .i64 b].size → #[Value.int .i64 a, Value.int .i64 b][j]? = some (.int .i64 ((fun j => if j = 0 then a else b) j)) := by
  intro j hj
  match j, hj with
  | 0, _ => rfl
  | 1, _ => rfl
theorem one_cells (a : Int) : ∀ j, j < #[Value.int .i64 a].size → #[Value.int .i64 a][j]? = some (.int .i64 ((fun _ => a) j)) := by
  intro j hj
  match j, hj with
  | 0, _ => rfl
theorem limited_two (a b : Int) (g : Nat) (w : World) (hg : g = w.heap.size) :
    Calls Try.prog 27 #[.slice (some ⟨g, 0, none⟩) 2 2] (w.alloc (.cells #[.int .i64 a, .int .i64 b] 3)) fun e w' => e = .returned (.bool (inB 1073741824 a && inB 1073741824 b)) ∧ w.alloc (.cells #[.int .i64 a, .int .i64 b] 3) = w' := by
  subst hg
  have h := limited_27 (some ⟨w.heap.size, 0, none⟩) 2 2 (w.heap.size + 1) (fun j => if j = 0 then a else b) _ (by omega) (rd_new w #[.int .i64 a, .int .i64 b] 3 _ (two_cells a b))
  simpa [limB] using h
theorem limited_one (a : Int) (g : Nat) (w : World) (hg : g = w.heap.size) :
    Calls Try.prog 27 #[.slice (some ⟨g, 0, none⟩) 1 1] (w.alloc (.cells #[.int .i64 a] 3)) fun e w' => e = .returned (.bool (inB 1073741824 a)) ∧ w.alloc (.cells #[.int .i64 a] 3) = w' := by
  subst hg
  have h := limited_27 (some ⟨w.heap.size, 0, none⟩) 1 1 (w.heap.size + 1) (fun _ => a) _ (by omega) (rd_new w #[.int .i64 a] 3 _ (one_cells a))
  simpa [limB] using h

set_option maxRecDepth 100000 in
theorem right_25 (L S : Int) (w : World) : Calls Try.prog 25 #[.agg #[.int .i64 L, .int .i64 S]] w fun e w' => e = .returned (.bool (rt L S)) ∧ Below w.heap.size w w' := by
  cases h1 : (inB 1073741824 L && inB 1073741824 S)
  · have HV : Hid (rt L S = false) := Lib.hid (by rw [rt, h1]; rfl)
    have H1 := Lib.hid h1
    clear h1
    go_enter Try.func25, Try.ntmps25
    go_wp2_with fail
    refine (limited_two _ _ _ _ (by simp)).mono ?_
    rintro e w' ⟨rfl, rfl⟩
    rw [H1.out]
    go_wp2_with fail
    go_ret
    exact ⟨ret_bool HV.out.symm, (by repeat (first | exact Below.refl _ _ | exact below_alloc _ _ | refine Below.alloc ?_ (by simp; omega) _ | refine Below.alloc ?_ (by simp) _))⟩
  · have H1 := Lib.hid h1
    have HV : Hid (rt L S = (decide (0 < L) || decide (S = 0))) := Lib.hid (by rw [rt, h1]; rfl)
    clear h1
    by_cases h2 : 0 < L
    · go_enter Try.func25, Try.ntmps25
      go_wp2_with fail
      refine (limited_two _ _ _ _ (by simp)).mono ?_
      rintro e w' ⟨rfl, rfl⟩
      rw [H1.out]
      go_wp2_with fail
      go_ret
      exact ⟨ret_bool (by rw [HV.out]; simp [h2]), (by repeat (first | exact Below.refl _ _ | exact below_alloc _ _ | refine Below.alloc ?_ (by simp; omega) _ | refine Below.alloc ?_ (by simp) _))⟩
    · have h2' : L ≤ 0 := by omega
      by_cases h3 : S = 0
      · subst h3
        go_enter Try.func25, Try.ntmps25
        go_wp2_with fail
        refine (limited_two _ _ _ _ (by simp)).mono ?_
        rintro e w' ⟨rfl, rfl⟩
        rw [H1.out]
        go_wp2_with fail
        go_ret
        exact ⟨ret_bool (by rw [HV.out]; simp), (by repeat (first | exact Below.refl _ _ | exact below_alloc _ _ | refine Below.alloc ?_ (by simp; omega) _ | refine Below.alloc ?_ (by simp) _))⟩
      · have h4 : (S == 0) = false := by rw [beq_eq_false_iff_ne]; exact h3
        go_enter Try.func25, Try.ntmps25
        go_wp2_with fail
        refine (limited_two _ _ _ _ (by simp)).mono ?_
        rintro e w' ⟨rfl, rfl⟩
        rw [H1.out]
        go_wp2_with fail
        go_ret
        exact ⟨ret_bool (by rw [HV.out]; simp [h3]), (by repeat (first | exact Below.refl _ _ | exact below_alloc _ _ | refine Below.alloc ?_ (by simp; omega) _ | refine Below.alloc ?_ (by simp) _))⟩

set_option maxRecDepth 100000 in
theorem within_30 (n lo hi : Int) (w : World) : Calls Try.prog 30 #[.int .i64 n, .int .i64 lo, .int .i64 hi] w fun e w' => e = .returned (.bool (decide (lo ≤ n) && decide (n ≤ hi))) ∧ w = w' := by
  by_cases h1 : lo ≤ n
  · by_cases h2 : n ≤ hi
    · go_enter Try.func30, Try.ntmps30
      go_wp2_with fail
      go_ret
      exact ⟨ret_bool (by simp [h1, h2]), rfl⟩
    · have h2' : hi < n := by omega
      go_enter Try.func30, Try.ntmps30
      go_wp2_with fail
      go_ret
      exact ⟨ret_bool (by simp; omega), rfl⟩
  · have h1' : n < lo := by omega
    go_enter Try.func30, Try.ntmps30
    go_wp2_with fail
    go_ret
    exact ⟨ret_bool (by simp; omega), rfl⟩
theorem within_0 (most a : Int) (w : World) : Calls Try.prog 30 #[.int .i64 a, .int .i64 0, .int .i64 most] w fun e w' => e = .returned (.bool (inB most a)) ∧ w = w' := within_30 a 0 most w

set_option maxRecDepth 100000 in
theorem Right_23 (L S : Int) (w : World) : Calls Try.prog 23 #[.agg #[.int .i64 L, .int .i64 S]] w fun e w' => e = .returned (.bool (rt L S)) ∧ Below w.heap.size w w' := by
  cases h1 : inB 1073741824 L
  · have HV : Hid (rt L S = false) := Lib.hid (by rw [rt, h1]; rfl)
    have H1 := Lib.hid h1
    clear h1
    go_enter Try.func23, Try.ntmps23
    go_wp2_with fail
    refine (within_0 _ _ _).mono ?_
    rintro e w' ⟨rfl, rfl⟩
    rw [H1.out]
    go_wp2_with fail
    go_ret
    exact ⟨ret_bool HV.out.symm, (by repeat (first | exact Below.refl _ _ | exact below_alloc _ _ | refine Below.alloc ?_ (by simp; omega) _ | refine Below.alloc ?_ (by simp) _))⟩
  have H1 := Lib.hid h1
  cases h2 : inB 1073741824 S
  · have HV : Hid (rt L S = false) := Lib.hid (by rw [rt, h1, h2]; rfl)
    have H2 := Lib.hid h2
    clear h1 h2
    go_enter Try.func23, Try.ntmps23
    go_wp2_with fail
    refine (within_0 _ _ _).mono ?_
    rintro e w' ⟨rfl, rfl⟩
    rw [H1.out]
    go_wp2_with fail
    refine (within_0 _ _ _).mono ?_
    rintro e w' ⟨rfl, rfl⟩
    rw [H2.out]
    go_wp2_with fail
    go_ret
    exact ⟨ret_bool HV.out.symm, (by repeat (first | exact Below.refl _ _ | exact below_alloc _ _ | refine Below.alloc ?_ (by simp; omega) _ | refine Below.alloc ?_ (by simp) _))⟩
  have H2 := Lib.hid h2
  have HV : Hid (rt L S = (decide (0 < L) || decide (S = 0))) := Lib.hid (by rw [rt, h1, h2]; rfl)
  clear h1 h2
  by_cases h2 : 0 < L
  · go_enter Try.func23, Try.ntmps23
    go_wp2_with fail
    refine (within_0 _ _ _).mono ?_
    rintro e w' ⟨rfl, rfl⟩
    rw [H1.out]
    go_wp2_with fail
    refine (within_0 _ _ _).mono ?_
    rintro e w' ⟨rfl, rfl⟩
    rw [H2.out]
    go_wp2_with fail
    go_ret
    exact ⟨ret_bool (by rw [HV.out]; simp [h2]), (by repeat (first | exact Below.refl _ _ | exact below_alloc _ _ | refine Below.alloc ?_ (by simp; omega) _ | refine Below.alloc ?_ (by simp) _))⟩
  · have h2' : L ≤ 0 := by omega
    by_cases h3 : S = 0
    · subst h3
      go_enter Try.func23, Try.ntmps23
      go_wp2_with fail
      refine (within_0 _ _ _).mono ?_
      rintro e w' ⟨rfl, rfl⟩
      rw [H1.out]
      go_wp2_with fail
      refine (within_0 _ _ _).mono ?_
      rintro e w' ⟨rfl, rfl⟩
      rw [H2.out]
      go_wp2_with fail
      go_ret
      exact ⟨ret_bool (by rw [HV.out]; simp), (by repeat (first | exact Below.refl _ _ | exact below_alloc _ _ | refine Below.alloc ?_ (by simp; omega) _ | refine Below.alloc ?_ (by simp) _))⟩
    · have h4 : (S == 0) = false := by rw [beq_eq_false_iff_ne]; exact h3
      go_enter Try.func23, Try.ntmps23
      go_wp2_with fail
      refine (within_0 _ _ _).mono ?_
      rintro e w' ⟨rfl, rfl⟩
      rw [H1.out]
      go_wp2_with fail
      refine (within_0 _ _ _).mono ?_
      rintro e w' ⟨rfl, rfl⟩
      rw [H2.out]
      go_wp2_with fail
      go_ret
      exact ⟨ret_bool (by rw [HV.out]; simp [h3]), (by repeat (first | exact Below.refl _ _ | exact below_alloc _ _ | refine Below.alloc ?_ (by simp; omega) _ | refine Below.alloc ?_ (by simp) _))⟩

set_option maxRecDepth 100000 in
theorem share_31 (s k n : Int) (w : World) (h0 : 0 ≤ s * k) (h1 : s * k ≤ 4611686018427387904) (hn : 0 < n) (hn2 : n ≤ 4611686018427387904) :
    Calls Try.prog 31 #[.int .i64 s, .int .i64 k, .int .i64 n] w fun e w' => e = .returned (.int .i64 (s * k / n)) ∧ w = w' := by
  have hq0 : 0 ≤ s * k / n := Int.ediv_nonneg h0 (by omega)
  have hq1 : s * k / n ≤ s * k := Int.ediv_le_self _ h0
  have hne : ¬ n = 0 := by omega
  go_enter Try.func31, Try.ntmps31
  go_wp2_with fail
  go_ret
  exact ⟨rfl, rfl⟩
end Go.Proofs.Ythmebjbaigiehaa
