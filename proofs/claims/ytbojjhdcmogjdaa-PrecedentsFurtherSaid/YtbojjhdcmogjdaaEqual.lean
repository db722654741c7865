/- What is reckoned with bits is what is reckoned with lists, on right books. Plain laws; no program in sight. -/
import Derived.Test.YtbojjhdcmogjdaaDist
namespace Go.Proofs.Ytbojjhdcmogjdaa
open Go.RowKit

theorem fstB_congr {p q : Nat → Bool} : ∀ (m i : Nat), (∀ j, i ≤ j → j < i + m → p j = q j) → fstB p i m = fstB q i m
  | 0, _, _ => rfl
  | m + 1, i, h => by
    rw [fstB, fstB, h i (by omega) (by omega), fstB_congr m (i + 1) (fun j h1 h2 => h j (by omega) (by omega))]
theorem prB_congr {p q : Nat → Nat → Bool} {n : Nat} : ∀ (m i : Nat), i + m ≤ n → (∀ i j, i < n → j < n → p i j = q i j) → prB p n i m = prB q n i m
  | 0, _, _, _ => rfl
  | m + 1, i, hn, h => by
    rw [prB, prB, prB_congr m (i + 1) (by omega) h, fstB_congr (p := p i) (q := q i) (n - (i + 1)) (i + 1) (fun j h1 h2 => h i j (by omega) (by omega))]

/-- lists that rise and have the same elements are the same -/
theorem pw_ext : ∀ {a b : List Int}, a.Pairwise (· < ·) → b.Pairwise (· < ·) → (∀ x, x ∈ a ↔ x ∈ b) → a = b
  | [], [], _, _, _ => rfl
  | [], y :: b, _, _, h => absurd ((h y).2 (by simp)) (by simp)
  | x :: a, [], _, _, h => absurd ((h x).1 (by simp)) (by simp)
  | x :: a, y :: b, ha, hb, h => by
    rw [List.pairwise_cons] at ha hb
    have e : x = y := by
      have h1 := (h x).1 (by simp)
      have h2 := (h y).2 (by simp)
      rcases List.mem_cons.1 h1 with h1 | h1
      · exact h1
      · rcases List.mem_cons.1 h2 with h2 | h2
        · exact h2.symm
        · have := ha.1 y h2; have := hb.1 x h1; omega
    subst e
    congr 1
    refine pw_ext ha.2 hb.2 fun z => ?_
    have h1 := h z
    rw [List.mem_cons, List.mem_cons] at h1
    constructor
    · intro hz
      rcases h1.1 (.inr hz) with h2 | h2
      · have := ha.1 z hz; omega
      · exact h2
    · intro hz
      rcases h1.2 (.inr hz) with h2 | h2
      · have := hb.1 z hz; omega
      · exact h2
theorem fltL_at {p : Int → Bool} {l : Nat → Int} : ∀ {m : Nat} {x : Int}, x ∈ fltL p l m → ∃ k, k < m ∧ l k = x
  | m, x, h => by
    obtain ⟨_, h2⟩ := (fltL_mem m).1 h
    exact (hasB_iff m).1 h2
theorem fltL_pw {p : Int → Bool} {l : Nat → Int} : ∀ m, (∀ j k, j < k → k < m → l j < l k) → (fltL p l m).Pairwise (· < ·)
  | 0, _ => List.Pairwise.nil
  | m + 1, h => by
    have ih := fltL_pw m (p := p) (l := l) (fun j k h1 h2 => h j k h1 (by omega))
    unfold fltL
    split
    · rw [List.pairwise_append]
      refine ⟨ih, List.pairwise_singleton _ _, fun a ha b hb => ?_⟩
      obtain ⟨k, hk, rfl⟩ := fltL_at ha
      obtain rfl : b = l m := by simpa using hb
      exact h k m hk (by omega)
    · exact ih

section
variable {S F l G : Nat → Int} {sn fn m gn : Nat} {x : Int}
/-- what a case's facts lack, bit by bit -/
theorem mis_bit (hs : sn ≤ 32) (hS : sidB S sn = true) (hx : x = 0 ∨ x = 1) (hl : okS sn l m = true) (hG : okS sn G gn = true) (i : Nat) :
    (misN (mask l m) (othN (fav S 0 sn) (fav S 1 sn) x) (mask G gn)).testBit i = (misP S x G gn i && hasB l i m) := by
  have hl0 := fun k hk => (okS_at m hl k hk).1
  have hG0 := fun k hk => (okS_at gn hG k hk).1
  have hg : mask G gn < 2 ^ 64 := Nat.lt_of_lt_of_le (mask_lt gn hG0) (Nat.pow_le_pow_right (by omega) (by omega))
  have e : 18446744073709551615 - mask G gn = 2 ^ 64 - (mask G gn + 1) := by omega
  unfold misN misP
  rw [Nat.testBit_and, Nat.testBit_and, e, Nat.testBit_two_pow_sub_succ hg, mask_bit m (fun j hj => (hl0 j hj).1), mask_bit gn (fun j hj => (hG0 j hj).1), Int.toNat_natCast]
  cases h1 : hasB l i m with
  | false => simp
  | true =>
    obtain ⟨k, hk, e1⟩ := (hasB_iff m).1 h1
    have h2 := hl0 k hk
    have hi : i < sn := by omega
    have h64 : i < 64 := by omega
    have h01 := sidB_at sn hS i hi
    have hf : (othN (fav S 0 sn) (fav S 1 sn) x).testBit i = !decide (S i = x) := by
      rcases hx with rfl | rfl
      · show (fav S 1 sn).testBit i = _
        rw [fav_bit, decide_eq_true hi, Bool.true_and, ← decide_not, decide_eq_decide]; omega
      · show (fav S 0 sn).testBit i = _
        rw [fav_bit, decide_eq_true hi, Bool.true_and, ← decide_not, decide_eq_decide]; omega
    rw [hf, decide_eq_true h64]
    simp
/-- the list of these bits -/
theorem mis_list (hs : sn ≤ 32) (hS : sidB S sn = true) (hx : x = 0 ∨ x = 1) (hl : okS sn l m = true) (hG : okS sn G gn = true) :
    bitL (misN (mask l m) (othN (fav S 0 sn) (fav S 1 sn) x) (mask G gn)) sn = fltL (misP S x G gn) l m := by
  have hl0 := fun k hk => (okS_at m hl k hk).1
  refine pw_ext (fltL_pw sn (fun j k h1 h2 => by omega)) (fltL_pw m (okS_lt hl)) fun z => ?_
  rw [bitL, fltL_mem, fltL_mem, hasB_iff, hasB_iff]
  constructor
  · rintro ⟨h1, k, hk, rfl⟩
    have h1' : (misN (mask l m) (othN (fav S 0 sn) (fav S 1 sn) x) (mask G gn)).testBit k = true := by simpa [bitP] using h1
    rw [mis_bit hs hS hx hl hG, Bool.and_eq_true] at h1'
    exact ⟨h1'.1, (hasB_iff m).1 h1'.2⟩
  · rintro ⟨h1, k, hk, rfl⟩
    have h2 := hl0 k hk
    have e : (((l k).toNat : Nat) : Int) = l k := by omega
    refine ⟨?_, (l k).toNat, by omega, e⟩
    show (misN _ _ _).testBit (l k).toNat = true
    rw [mis_bit hs hS hx hl hG, e, h1, Bool.true_and, hasB_iff]
    exact ⟨k, hk, rfl⟩
theorem mis_zero (hs : sn ≤ 32) (hS : sidB S sn = true) (hx : x = 0 ∨ x = 1) (hl : okS sn l m = true) (hG : okS sn G gn = true) :
    misN (mask l m) (othN (fav S 0 sn) (fav S 1 sn) x) (mask G gn) = 0 ↔ (fltL (misP S x G gn) l m).length = 0 := by
  have hb := mis_bit hs hS hx hl hG
  rw [← mis_list hs hS hx hl hG]
  constructor
  · intro h
    rw [List.length_eq_zero_iff, List.eq_nil_iff_forall_not_mem]
    intro z hz
    obtain ⟨h1, _⟩ := (fltL_mem sn).1 hz
    rw [h] at h1
    simp [bitP] at h1
  · intro h
    apply Nat.eq_of_testBit_eq
    intro i
    rw [Nat.zero_testBit]
    cases h1 : (misN (mask l m) (othN (fav S 0 sn) (fav S 1 sn) x) (mask G gn)).testBit i with
    | false => rfl
    | true =>
      have h2 := hb i
      rw [h1] at h2
      have h3 := h2.symm
      rw [Bool.and_eq_true] at h3
      obtain ⟨k, hk, e1⟩ := (hasB_iff m).1 h3.2
      have h4 := (okS_at m hl k hk).1
      have : (i : Int) ∈ bitL (misN (mask l m) (othN (fav S 0 sn) (fav S 1 sn) x) (mask G gn)) sn := by
        rw [bitL, fltL_mem, hasB_iff]
        exact ⟨by simpa [bitP] using h1, i, by omega, rfl⟩
      rw [List.length_eq_zero_iff] at h
      rw [h] at this
      cases this
end

section
variable {S : Nat → Int} {sn n : Nat} {no hr wi : Nat → Int} {fn : Nat → Nat} {F : Nat → Nat → Int} {rn : Nat → Nat} {R : Nat → Nat → Int} {l : Nat → Int} {m : Nat}
/-- a right book, opened -/
theorem book_at (h : (chkE S sn n no hr wi fn F rn R) = 0) : sn ≤ 32 ∧ n ≤ 64 ∧ sidB S sn = true ∧ ∀ j, j < n → (wi j = 0 ∨ wi j = 1) ∧ okS sn (F j) (fn j) = true ∧ okS sn (R j) (rn j) = true ∧ allB (R j) (F j) (fn j) (rn j) = true ∧ sideB S (R j) (wi j) (rn j) = true := by
  obtain ⟨h1, h2, h3, h4⟩ := chk_zero h
  refine ⟨h1, h2, h3, fun j hj => ?_⟩
  obtain ⟨⟨_, _, h5⟩, _, h6, h7, h8, h9⟩ := casB_facts (h4 j hj)
  exact ⟨by omega, h6, h7, h8, h9⟩
theorem bnd_eq (h : (chkE S sn n no hr wi fn F rn R) = 0) (hl : okS sn l m = true) (side : Int) {j : Nat} (hj : j < n) : bndP S sn wi fn F rn R l m side j = bndL S wi fn F rn R l m side j := by
  obtain ⟨h1, _, h3, h4⟩ := book_at h
  obtain ⟨h5, h6, h7, _⟩ := h4 j hj
  unfold bndP bndL bndB
  rw [all_bits h1 hl h7, decide_eq_decide.2 (mis_zero h1 h3 h5 hl h6)]
theorem may_eq (h : (chkE S sn n no hr wi fn F rn R) = 0) (hl : okS sn l m = true) {q : Nat → Int} {k : Nat} (hq : okS sn q k = true) (side : Int) {j : Nat} (hj : j < n) : mayP wi fn F rn R l m q k side j = mayL wi fn F rn R l m q k side j := by
  obtain ⟨h1, _, h3, h4⟩ := book_at h
  obtain ⟨_, h6, h7, _⟩ := h4 j hj
  unfold mayP mayL claB claL
  rw [all_bits h1 h6 hq, all_bits h1 hl h7, decide_eq_decide.2 (show (side = wi j) ↔ (wi j = side) from ⟨Eq.symm, Eq.symm⟩), Bool.and_assoc, Bool.and_assoc, Bool.and_comm (allB q _ _ _)]
theorem cls_eq (h : (chkE S sn n no hr wi fn F rn R) = 0) {i j : Nat} (hi : i < n) (hj : j < n) : clsP wi fn F rn R i j = clsL wi fn F rn R i j := by
  obtain ⟨h1, _, h3, h4⟩ := book_at h
  obtain ⟨_, h6, h7, _⟩ := h4 i hi
  obtain ⟨_, h8, h9, _⟩ := h4 j hj
  unfold clsP clsL claB claL
  rw [all_bits h1 h8 h7, all_bits h1 h6 h9]

/-- Clash: both answers are the same -/
theorem cl_same : clV (chkE S sn n no hr wi fn F rn R) (prB (clsP wi fn F rn R) n 0 n) = clV (chkE S sn n no hr wi fn F rn R) (prB (clsL wi fn F rn R) n 0 n) := by
  by_cases h : (chkE S sn n no hr wi fn F rn R) = 0
  · rw [prB_congr n 0 (by omega) (fun i j hi hj => cls_eq h hi hj)]
  · simp [clV, h]
theorem bd_same (side : Int) : bdV (askE (chkE S sn n no hr wi fn F rn R) sn l m side) (fstB (bndP S sn wi fn F rn R l m side) 0 n) = bdV (askE (chkE S sn n no hr wi fn F rn R) sn l m side) (fstB (bndL S wi fn F rn R l m side) 0 n) := by
  by_cases h : askE (chkE S sn n no hr wi fn F rn R) sn l m side = 0
  · obtain ⟨h1, h2, _⟩ := askE_zero h
    rw [fstB_congr n 0 (fun j _ hj => bnd_eq h1 h2 side (by omega))]
  · simp [bdV, h]
theorem mayE_zero {E : Int} {q : Nat → Int} {k : Nat} {side : Int} (h : mayE E S sn l m q k side = 0) : E = 0 ∧ reaB S sn l m q k side = true := by
  unfold mayE at h
  split at h
  · rename_i h1; exact absurd h h1
  split at h
  · rename_i h1 h2; exact ⟨Decidable.not_not.1 h1, h2⟩
  · cases h
theorem my_same (q : Nat → Int) (k : Nat) (side : Int) : myV (mayE (askE (chkE S sn n no hr wi fn F rn R) sn l m side) S sn l m q k side) (fstB (mayP wi fn F rn R l m q k side) 0 n) = myV (mayE (askE (chkE S sn n no hr wi fn F rn R) sn l m side) S sn l m q k side) (fstB (mayL wi fn F rn R l m q k side) 0 n) := by
  by_cases h : mayE (askE (chkE S sn n no hr wi fn F rn R) sn l m side) S sn l m q k side = 0
  · obtain ⟨h0, h3⟩ := mayE_zero h
    obtain ⟨h1, h2, _⟩ := askE_zero h0
    have h4 : okS sn q k = true := by
      unfold reaB at h3
      rw [Bool.and_eq_true, Bool.and_eq_true] at h3
      exact h3.1.1
    rw [fstB_congr n 0 (fun j _ hj => may_eq h1 h2 h4 side (by omega))]
  · simp [myV, h]
/-- Distinguish: both lists, and both answers, are the same -/
theorem dis_same {i : Int} (h : disE (askE (chkE S sn n no hr wi fn F rn R) sn l m 0) n i = 0) : bitL (misN (mask l m) (othN (fav S 0 sn) (fav S 1 sn) (wi i.toNat)) (mask (F i.toNat) (fn i.toNat))) sn = fltL (misP S (wi i.toNat) (F i.toNat) (fn i.toNat)) l m ∧
    (decide (misN (mask l m) (othN (fav S 0 sn) (fav S 1 sn) (wi i.toNat)) (mask (F i.toNat) (fn i.toNat)) ≠ 0) && subB (mask (R i.toNat) (rn i.toNat)) (mask l m)) = (decide ((fltL (misP S (wi i.toNat) (F i.toNat) (fn i.toNat)) l m).length ≠ 0) && allB (R i.toNat) l m (rn i.toNat)) := by
  obtain ⟨h0, hi0, hi1⟩ := disE_zero h
  obtain ⟨h1, h2, _⟩ := askE_zero h0
  obtain ⟨h3, _, h5, h6⟩ := book_at h1
  obtain ⟨h7, h8, h9, _⟩ := h6 i.toNat (by omega)
  refine ⟨mis_list h3 h5 h7 h2 h8, ?_⟩
  rw [all_bits h3 h2 h9, decide_eq_decide.2 (not_congr (mis_zero h3 h5 h7 h2 h8))]
end
end Go.Proofs.Ytbojjhdcmogjdaa
