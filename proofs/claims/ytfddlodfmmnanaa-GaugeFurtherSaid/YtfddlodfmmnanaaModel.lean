/- What a gauge's check and its flow are, in plain words; two forms agree. -/
import Derived.Test.YtfddlodfmmnanaaPair
namespace Go.Proofs.Ytfddlodfmmnanaa
open Go.RowKit

def inB (most a : Int) : Bool := decide (0 ≤ a) && decide (a ≤ most)
theorem inB_iff {most a : Int} : inB most a = true ↔ 0 ≤ a ∧ a ≤ most := by simp [inB]
theorem inB_not {most a : Int} : inB most a = false ↔ a < 0 ∨ most < a := by
  rw [Bool.eq_false_iff, Ne, inB_iff]; omega
def prevS (S : Nat → Int) (k : Nat) : Int := if k = 0 then -1 else S (k - 1)
def prevF (F : Nat → Int) (k : Nat) : Int := if k = 0 then 0 else F (k - 1)
/-- is row k right? -/
def rowB (S F : Nat → Int) (k : Nat) : Bool := inB 1048576 (S k) && (inB 1073741824 (F k) && (decide (prevS S k < S k) && decide (prevF F k ≤ F k)))
def rowsB (S F : Nat → Int) : Nat → Bool
  | 0 => true
  | k + 1 => rowsB S F k && rowB S F k
theorem rowsB_bad {S F : Nat → Int} {k : Nat} (h : rowB S F k = false) : ∀ n, k < n → rowsB S F n = false
  | 0, hn => absurd hn (by omega)
  | n + 1, hn => by
    by_cases e : k = n
    · subst e; simp [rowsB, h]
    · simp [rowsB, rowsB_bad h n (by omega)]
theorem rowsB_at {S F : Nat → Int} : ∀ n, rowsB S F n = true → ∀ k, k < n → rowB S F k = true
  | 0, _, k, hk => absurd hk (by omega)
  | n + 1, h, k, hk => by
    simp [rowsB] at h
    by_cases e : k = n
    · subst e; exact h.2
    · exact rowsB_at n h.1 k (by omega)
def headB (no rc cl dr si : Int) (n : Nat) : Bool := inB 1048576 no && (inB 63 rc && ((inB 1000 cl && inB 1000 dr) && (inB 4096 si && decide (n ≠ 0))))
/-- the error of a gauge -/
def chk (no rc cl dr si : Int) (n : Nat) (S F : Nat → Int) : Int := if 64 < n then 2 else if headB no rc cl dr si n = true ∧ rowsB S F n = true then 0 else 240
theorem chk_big {no rc cl dr si : Int} {n : Nat} {S F : Nat → Int} (h : 64 < n) : chk no rc cl dr si n S F = 2 := if_pos h
theorem chk_bad {no rc cl dr si : Int} {n : Nat} {S F : Nat → Int} (h : ¬ 64 < n) (hb : headB no rc cl dr si n = false ∨ rowsB S F n = false) : chk no rc cl dr si n S F = 240 := by
  unfold chk
  rw [if_neg h, if_neg]
  rintro ⟨h1, h2⟩
  rcases hb with hb | hb
  · rw [hb] at h1; cases h1
  · rw [hb] at h2; cases h2
theorem chk_ok {no rc cl dr si : Int} {n : Nat} {S F : Nat → Int} (h : ¬ 64 < n) (h1 : headB no rc cl dr si n = true) (h2 : rowsB S F n = true) : chk no rc cl dr si n S F = 0 := by
  unfold chk
  rw [if_neg h, if_pos ⟨h1, h2⟩]

/-- a gauge -/
abbrev gv (no rc cl dr si : Int) (A : Option Addr) (n c : Nat) : Value := .agg #[.int .i64 no, .int .i64 rc, .int .i64 cl, .int .i64 dr, .int .i64 si, .slice A n c]

def withinB (most : Int) (f : Nat → Int) : Nat → Bool
  | 0 => true
  | k + 1 => withinB most f k && inB most (f k)
theorem withinB_bad {most : Int} {f : Nat → Int} {k : Nat} (h : inB most (f k) = false) : ∀ n, k < n → withinB most f n = false
  | 0, hn => absurd hn (by omega)
  | n + 1, hn => by
    by_cases e : k = n
    · subst e; simp [withinB, h]
    · simp [withinB, withinB_bad h n (by omega)]

set_option maxRecDepth 100000 in
theorem within_19 (A : Option Addr) (m c B : Nat) (f : Nat → Int) (most : Int) (w : World) (hm : m ≤ 9223372036854775807) (hr : Rd w B A m (fun j => .int .i64 (f j))) :
    Calls Try.prog 19 #[.int .i64 most, .slice A m c] w fun e w' => e = .returned (.bool (withinB most f m)) ∧ w = w' := by
  have HR := Lib.hid hr
  clear hr
  go_enter Try.func19, Try.ntmps19
  go_wp2_with fail
  go_loopw [9] (fun i wr => ∃ k : Nat, k ≤ m ∧ i = .int .i64 k ∧ Hid (withinB most f k = true) ∧ wr = w) (fun i _ => m - (intOf i).toNat)
  case atStart => exact ⟨0, Nat.zero_le _, rfl, Lib.hid rfl, rfl⟩
  case round =>
    obtain ⟨k, hk, rfl, HK, rfl⟩ := hrel
    by_cases hlt : k < m
    · have hlt' : (k : Int) < m := by omega
      obtain ⟨b, o, e, _, cs⟩ := HR.out (by omega)
      have ck := cs k hlt
      subst e
      clear cs
      by_cases h1 : f k < 0
      · have hv : withinB most f m = false := withinB_bad (inB_not.2 (.inl h1)) m hlt
        have HV := Lib.hid hv
        clear hv
        go_wp2_with fail
        go_ret
        exact ⟨ret_bool HV.out.symm, rfl⟩
      · have h1' : 0 ≤ f k := by omega
        by_cases h2 : most < f k
        · have hv : withinB most f m = false := withinB_bad (inB_not.2 (.inr h2)) m hlt
          have HV := Lib.hid hv
          clear hv
          go_wp2_with fail
          go_ret
          exact ⟨ret_bool HV.out.symm, rfl⟩
        · have h2' : f k ≤ most := by omega
          go_wp2_with fail
          go_roundw
          case rel => exact ⟨k + 1, by omega, by go_num, Lib.hid (by simp [withinB, HK.out, inB_iff.2 ⟨h1', h2'⟩]), trivial⟩
          case measure => simp [intOf]; omega
    · obtain rfl : k = m := by omega
      go_wp2_with fail
      go_ret
      exact ⟨ret_bool HK.out.symm, rfl⟩

theorem within_one (most a : Int) (g : Nat) (w : World) (hg : g = w.heap.size) :
    Calls Try.prog 19 #[.int .i64 most, .slice (some ⟨g, 0, none⟩) 1 1] (w.alloc (.cells #[.int .i64 a] 3)) fun e w' => e = .returned (.bool (inB most a)) ∧ w.alloc (.cells #[.int .i64 a] 3) = w' := by
  subst hg
  have h := within_19 (some ⟨w.heap.size, 0, none⟩) 1 1 (w.heap.size + 1) (fun _ => a) most (w.alloc (.cells #[.int .i64 a] 3)) (by omega)
    (rd_new w #[.int .i64 a] 3 (fun _ => .int .i64 a) (by intro j hj; simp at hj; subst hj; rfl))
  simpa [withinB] using h
theorem within_two (most a b : Int) (g : Nat) (w : World) (hg : g = w.heap.size) :
    Calls Try.prog 19 #[.int .i64 most, .slice (some ⟨g, 0, none⟩) 2 2] (w.alloc (.cells #[.int .i64 a, .int .i64 b] 3)) fun e w' => e = .returned (.bool (inB most a && inB most b)) ∧ w.alloc (.cells #[.int .i64 a, .int .i64 b] 3) = w' := by
  subst hg
  have h := within_19 (some ⟨w.heap.size, 0, none⟩) 2 2 (w.heap.size + 1) (fun j => if j = 0 then a else b) most (w.alloc (.cells #[.int .i64 a, .int .i64 b] 3)) (by omega)
    (rd_new w #[.int .i64 a, .int .i64 b] 3 (fun j => .int .i64 (if j = 0 then a else b)) (by
      intro j hj
      simp at hj
      match j, hj with
      | 0, _ => rfl
      | 1, _ => rfl))
  simpa [withinB] using h

set_option maxRecDepth 100000 in
theorem ref_within_21 (n lo hi : Int) (w : World) : Calls Try.prog 21 #[.int .i64 n, .int .i64 lo, .int .i64 hi] w fun e w' => e = .returned (.bool (decide (lo ≤ n) && decide (n ≤ hi))) ∧ w = w' := by
  by_cases h1 : lo ≤ n
  · by_cases h2 : n ≤ hi
    · go_enter Try.func21, Try.ntmps21
      go_wp2_with fail
      go_ret
      exact ⟨ret_bool (by simp [h1, h2]), rfl⟩
    · have h2' : hi < n := by omega
      go_enter Try.func21, Try.ntmps21
      go_wp2_with fail
      go_ret
      exact ⟨ret_bool (by simp; omega), rfl⟩
  · have h1' : n < lo := by omega
    go_enter Try.func21, Try.ntmps21
    go_wp2_with fail
    go_ret
    exact ⟨ret_bool (by simp; omega), rfl⟩
end Go.Proofs.Ytfddlodfmmnanaa
