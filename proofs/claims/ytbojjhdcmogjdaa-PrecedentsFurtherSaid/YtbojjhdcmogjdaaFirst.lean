/- Contracts of first: with a case's clash, and with the test of Binds. -/
import Derived.Test.YtbojjhdcmogjdaaAsk
namespace Go.Proofs.Ytbojjhdcmogjdaa
open Go.RowKit

/-- the first place from i on, of m, where p holds -/
def fstB (p : Nat → Bool) : Nat → Nat → Option Nat
  | _, 0 => none
  | i, m + 1 => if p i = true then some i else fstB p (i + 1) m
theorem fstB_some {p : Nat → Bool} : ∀ (m i k : Nat), fstB p i m = some k → (i ≤ k ∧ k < i + m) ∧ p k = true ∧ ∀ j, i ≤ j → j < k → p j = false
  | 0, _, _, h => by cases h
  | m + 1, i, k, h => by
    unfold fstB at h
    split at h
    · cases h; exact ⟨⟨by omega, by omega⟩, by assumption, fun j h1 h2 => by omega⟩
    · obtain ⟨h1, h2, h3⟩ := fstB_some m (i + 1) k h
      refine ⟨⟨by omega, by omega⟩, h2, fun j h4 h5 => ?_⟩
      by_cases e : j = i
      · subst e; rename_i hn; simpa using hn
      · exact h3 j (by omega) h5
theorem fstB_none {p : Nat → Bool} : ∀ (m i : Nat), fstB p i m = none → ∀ j, i ≤ j → j < i + m → p j = false
  | 0, _, _, j, h1, h2 => by omega
  | m + 1, i, h, j, h1, h2 => by
    unfold fstB at h
    split at h
    · cases h
    · by_cases e : j = i
      · subst e; rename_i hn; simpa using hn
      · exact fstB_none m (i + 1) h j (by omega) (by omega)
theorem fstB_skip {p : Nat → Bool} : ∀ (d i m : Nat), (∀ j, i ≤ j → j < i + d → p j = false) → fstB p i (d + m) = fstB p (i + d) m
  | 0, i, m, _ => by simp
  | d + 1, i, m, h => by
    rw [show d + 1 + m = (d + m) + 1 by omega, fstB, if_neg (by rw [h i (by omega) (by omega)]; simp), fstB_skip d (i + 1) m (fun j h1 h2 => h j (by omega) (by omega)), show i + 1 + d = i + (d + 1) by omega]
/-- what first hands back -/
def fstV (o : Option Nat) : Value := .tuple #[.int .i64 (o.getD 0 : Nat), .bool o.isSome]
/-- the cells of the cases that were read, at any numbers -/
def d3 (x : Nat → Int) (f r : Nat → Nat) (j : Nat) : Value := if j % 3 = 0 then .int .i64 (x (j / 3)) else if j % 3 = 1 then .int .u64 (f (j / 3)) else .int .u64 (r (j / 3))
theorem rd3_at {w : World} {B : Nat} {A : Option Addr} {n : Nat} {x : Nat → Int} {f r : Nat → Nat} (h : Rd w B A (n * 3) (d3 x f r)) {k : Nat} (hk : k < n) :
    ∃ b off, A = some ⟨b, off, none⟩ ∧ b < B ∧ w.cell? ⟨b, off + k * 3, none⟩ = some (.int .i64 (x k)) ∧ w.cell? ⟨b, off + k * 3 + 1, none⟩ = some (.int .u64 (f k)) ∧ w.cell? ⟨b, off + k * 3 + 2, none⟩ = some (.int .u64 (r k)) := by
  obtain ⟨b, off, e, hb, hc⟩ := h (by omega)
  refine ⟨b, off, e, hb, ?_, ?_, ?_⟩
  · rw [hc (k * 3) (by omega)]; unfold d3; rw [if_pos (by omega), show k * 3 / 3 = k by omega]
  · rw [Nat.add_assoc, hc (k * 3 + 1) (by omega)]; unfold d3; rw [if_neg (by omega), if_pos (by omega), show (k * 3 + 1) / 3 = k by omega]
  · rw [Nat.add_assoc, hc (k * 3 + 2) (by omega)]; unfold d3; rw [if_neg (by omega), if_neg (by omega), show (k * 3 + 2) / 3 = k by omega]

set_option maxRecDepth 100000 in
set_option maxHeartbeats 4000000 in
theorem first_clash (A : Option Addr) (n c B i0 : Nat) (x : Nat → Int) (f r : Nat → Nat) (y : Int) (g q : Nat) (p : Nat → Bool) (w : World) (hn : n ≤ 1000) (hi : i0 ≤ n) (hB : B ≤ w.heap.size) (hr : Rd w B A (n * 3) (d3 x f r))
    (hc : ∀ j, j < n → ∀ W, Below w.heap.size w W → Calls Try.prog 28 #[.agg #[.int .i64 y, .int .u64 g, .int .u64 q], .agg #[.int .i64 (x j), .int .u64 (f j), .int .u64 (r j)]] W fun e w' => e = .returned (.bool (p j)) ∧ Below W.heap.size W w') :
    Calls Try.prog 27 #[.slice A n c, .int .i64 i0, .func (.func 28) #[.agg #[.int .i64 y, .int .u64 g, .int .u64 q]] #[]] w fun e w' => e = .returned (fstV (fstB p i0 (n - i0))) ∧ Below w.heap.size w w' := by
  have HR := Lib.hid hr
  have HC := Lib.hid hc
  clear hr hc
  have hn' : (n : Int) ≤ 1000 := by omega
  go_enter Try.func27, Try.ntmps27
  go_wp2_with fail
  go_loopw [8] (fun i wr => ∃ k : Nat, i0 ≤ k ∧ k ≤ n ∧ i = .int .i64 k ∧ Hid (∀ j, i0 ≤ j → j < k → p j = false) ∧ Below w.heap.size w wr) (fun i _ => n - (intOf i).toNat)
  case atStart => exact ⟨i0, Nat.le_refl _, hi, rfl, Lib.hid fun j h1 h2 => by omega, Below.refl _ _⟩
  case round =>
    obtain ⟨k, hk0, hk, rfl, HK, hb⟩ := hrel
    have HBB := Lib.hid hb
    clear hb
    by_cases hlt : k < n
    · have hlt' : (k : Int) < n := by omega
      obtain ⟨b, o, e, _, c0, c1, c2⟩ := rd3_at (HR.out.below (HBB.out.mono hB)) hlt
      subst e
      go_wp2_with fail
      refine (HC.out k hlt wr HBB.out).mono ?_
      rintro e w1 ⟨rfl, hb⟩
      have HB1 := Lib.hid (HBB.out.trans (hb.mono HBB.out.size))
      clear hb c0 c1 c2
      cases h1 : p k
      · have HV : Hid (∀ j, i0 ≤ j → j < k + 1 → p j = false) := Lib.hid fun j h2 h3 => by
          by_cases e : j = k
          · subst e; exact h1
          · exact HK.out j h2 (by omega)
        clear h1
        go_wp2_with fail
        go_roundw
        case rel => exact ⟨k + 1, by omega, by omega, by go_num, HV, HB1.out⟩
        case measure => simp [intOf]; omega
      · have HV : Hid (fstB p i0 (n - i0) = some k) := Lib.hid (by
          rw [show n - i0 = (k - i0) + ((n - k - 1) + 1) by omega, fstB_skip (k - i0) i0 _ (fun j h2 h3 => HK.out j h2 (by omega)), show i0 + (k - i0) = k by omega, fstB, if_pos h1])
        clear h1
        go_wp2_with fail
        refine bodyPost_ret (results_tmp2 rfl _ _ _) rfl ?_
        exact ⟨ret_val (by rw [HV.out]; rfl), HB1.out⟩
    · obtain rfl : k = n := by omega
      have HV : Hid (fstB p i0 (k - i0) = none) := Lib.hid (by
        have := fstB_skip (k - i0) i0 0 (fun j h2 h3 => HK.out j h2 (by omega))
        rw [Nat.add_zero] at this
        rw [this]; rfl)
      go_wp2_with fail
      refine bodyPost_ret (results_tmp2 rfl _ _ _) rfl ?_
      exact ⟨ret_val (by rw [HV.out]; rfl), HBB.out⟩

set_option maxRecDepth 100000 in
set_option maxHeartbeats 4000000 in
theorem first_binds (A : Option Addr) (n c B i0 : Nat) (x : Nat → Int) (f r : Nat → Nat) (a b d : Nat) (p : Nat → Bool) (w : World) (hn : n ≤ 1000) (hi : i0 ≤ n) (hB : B ≤ w.heap.size) (hr : Rd w B A (n * 3) (d3 x f r))
    (hc : ∀ j, j < n → ∀ W, Below w.heap.size w W → Calls Try.prog 34 #[.agg #[.int .i64 (x j), .int .u64 (f j), .int .u64 (r j)], .pointer (some ⟨a, 0, none⟩), .pointer (some ⟨b, 0, none⟩), .pointer (some ⟨d, 0, none⟩)] W fun e w' => e = .returned (.bool (p j)) ∧ Below W.heap.size W w') :
    Calls Try.prog 27 #[.slice A n c, .int .i64 i0, .func (.func 34) #[] #[.pointer (some ⟨a, 0, none⟩), .pointer (some ⟨b, 0, none⟩), .pointer (some ⟨d, 0, none⟩)]] w fun e w' => e = .returned (fstV (fstB p i0 (n - i0))) ∧ Below w.heap.size w w' := by
  have HR := Lib.hid hr
  have HC := Lib.hid hc
  clear hr hc
  have hn' : (n : Int) ≤ 1000 := by omega
  go_enter Try.func27, Try.ntmps27
  go_wp2_with fail
  go_loopw [8] (fun i wr => ∃ k : Nat, i0 ≤ k ∧ k ≤ n ∧ i = .int .i64 k ∧ Hid (∀ j, i0 ≤ j → j < k → p j = false) ∧ Below w.heap.size w wr) (fun i _ => n - (intOf i).toNat)
  case atStart => exact ⟨i0, Nat.le_refl _, hi, rfl, Lib.hid fun j h1 h2 => by omega, Below.refl _ _⟩
  case round =>
    obtain ⟨k, hk0, hk, rfl, HK, hb⟩ := hrel
    have HBB := Lib.hid hb
    clear hb
    by_cases hlt : k < n
    · have hlt' : (k : Int) < n := by omega
      obtain ⟨b, o, e, _, c0, c1, c2⟩ := rd3_at (HR.out.below (HBB.out.mono hB)) hlt
      subst e
      go_wp2_with fail
      refine (HC.out k hlt wr HBB.out).mono ?_
      rintro e w1 ⟨rfl, hb⟩
      have HB1 := Lib.hid (HBB.out.trans (hb.mono HBB.out.size))
      clear hb c0 c1 c2
      cases h1 : p k
      · have HV : Hid (∀ j, i0 ≤ j → j < k + 1 → p j = false) := Lib.hid fun j h2 h3 => by
          by_cases e : j = k
          · subst e; exact h1
          · exact HK.out j h2 (by omega)
        clear h1
        go_wp2_with fail
        go_roundw
        case rel => exact ⟨k + 1, by omega, by omega, by go_num, HV, HB1.out⟩
        case measure => simp [intOf]; omega
      · have HV : Hid (fstB p i0 (n - i0) = some k) := Lib.hid (by
          rw [show n - i0 = (k - i0) + ((n - k - 1) + 1) by omega, fstB_skip (k - i0) i0 _ (fun j h2 h3 => HK.out j h2 (by omega)), show i0 + (k - i0) = k by omega, fstB, if_pos h1])
        clear h1
        go_wp2_with fail
        refine bodyPost_ret (results_tmp2 rfl _ _ _) rfl ?_
        exact ⟨ret_val (by rw [HV.out]; rfl), HB1.out⟩
    · obtain rfl : k = n := by omega
      have HV : Hid (fstB p i0 (k - i0) = none) := Lib.hid (by
        have := fstB_skip (k - i0) i0 0 (fun j h2 h3 => HK.out j h2 (by omega))
        rw [Nat.add_zero] at this
        rw [this]; rfl)
      go_wp2_with fail
      refine bodyPost_ret (results_tmp2 rfl _ _ _) rfl ?_
      exact ⟨ret_val (by rw [HV.out]; rfl), HBB.out⟩
end Go.Proofs.Ytbojjhdcmogjdaa
