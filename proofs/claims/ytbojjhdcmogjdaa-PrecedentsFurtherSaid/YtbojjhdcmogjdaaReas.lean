/- Reasons as lists, and what follows for binding and permitting. Plain laws; no program in sight. -/
import Derived.Test.YtbojjhdcmogjdaaEqual
namespace Go.Proofs.Ytbojjhdcmogjdaa
open Go.RowKit

/-- a list's elements by index -/
def ixL (L : List Int) (j : Nat) : Int := L.getD j 0
theorem ixL_mem {L : List Int} {j : Nat} (h : j < L.length) : ixL L j ∈ L := by
  unfold ixL
  rw [List.getD_eq_getElem?_getD, List.getElem?_eq_getElem h]
  exact List.getElem_mem h
theorem mem_ixL {L : List Int} {x : Int} (h : x ∈ L) : ∃ j, j < L.length ∧ ixL L j = x := by
  obtain ⟨j, hj, e⟩ := List.getElem_of_mem h
  exact ⟨j, hj, by unfold ixL; rw [List.getD_eq_getElem?_getD, List.getElem?_eq_getElem hj]; exact e⟩
theorem has_list {L : List Int} {x : Int} : hasB (ixL L) x L.length = true ↔ x ∈ L := by
  rw [hasB_iff]
  constructor
  · rintro ⟨k, hk, rfl⟩; exact ixL_mem hk
  · exact mem_ixL
theorem ok_list {M : Int} {L : List Int} (hp : L.Pairwise (· < ·)) (hm : ∀ z ∈ L, 0 ≤ z ∧ z < M) : okS M (ixL L) L.length = true := by
  refine okS_of _ fun k hk => ⟨hm _ (ixL_mem hk), ?_⟩
  by_cases h0 : k = 0
  · exact .inl h0
  · right
    rw [List.pairwise_iff_getElem] at hp
    have := hp (k - 1) k (by omega) hk (by omega)
    unfold ixL
    rw [List.getD_eq_getElem?_getD, List.getD_eq_getElem?_getD, List.getElem?_eq_getElem hk, List.getElem?_eq_getElem (by omega)]
    exact this
theorem all_list {L : List Int} {g : Nat → Int} {m : Nat} : allB (ixL L) g m L.length = true ↔ ∀ z ∈ L, hasB g z m = true := by
  rw [allB_iff]
  constructor
  · intro h z hz
    obtain ⟨j, hj, rfl⟩ := mem_ixL hz
    exact h j hj
  · exact fun h k hk => h _ (ixL_mem hk)
theorem side_list {S : Nat → Int} {x : Int} {L : List Int} : sideB S (ixL L) x L.length = true ↔ ∀ z ∈ L, S z.toNat = x := by
  rw [sideB_iff]
  constructor
  · intro h z hz
    obtain ⟨j, hj, rfl⟩ := mem_ixL hz
    exact h j hj
  · exact fun h k hk => h _ (ixL_mem hk)

/-- the elements whose bit is set -/
def pickL (v : Nat) (f : Nat → Int) : Nat → List Int
  | 0 => []
  | k + 1 => if v.testBit k = true then pickL v f k ++ [f k] else pickL v f k
theorem pickL_take {v : Nat} {f : Nat → Int} {k : Nat} (h : v.testBit k = true) : pickL v f (k + 1) = pickL v f k ++ [f k] := by rw [pickL, if_pos h]
theorem pickL_skip {v : Nat} {f : Nat → Int} {k : Nat} (h : v.testBit k = false) : pickL v f (k + 1) = pickL v f k := by rw [pickL, if_neg (by simp [h])]
theorem pickL_len (v : Nat) (f : Nat → Int) : ∀ k, (pickL v f k).length ≤ k
  | 0 => Nat.le_refl _
  | k + 1 => by
    have := pickL_len v f k
    unfold pickL
    split
    · rw [List.length_append, List.length_singleton]; omega
    · omega
theorem pickL_at {v : Nat} {f : Nat → Int} {x : Int} : ∀ k, x ∈ pickL v f k → ∃ j, j < k ∧ f j = x
  | 0, h => by cases h
  | k + 1, h => by
    unfold pickL at h
    split at h
    · rcases List.mem_append.1 h with h | h
      · obtain ⟨j, hj, e⟩ := pickL_at k h; exact ⟨j, by omega, e⟩
      · exact ⟨k, by omega, (by simpa using h : x = f k).symm⟩
    · obtain ⟨j, hj, e⟩ := pickL_at k h; exact ⟨j, by omega, e⟩
theorem pickL_pw {v : Nat} {f : Nat → Int} : ∀ k, (∀ i j, i < j → j < k → f i < f j) → (pickL v f k).Pairwise (· < ·)
  | 0, _ => List.Pairwise.nil
  | k + 1, h => by
    have ih := pickL_pw (v := v) k (fun i j h1 h2 => h i j h1 (by omega))
    unfold pickL
    split
    · rw [List.pairwise_append]
      refine ⟨ih, List.pairwise_singleton _ _, fun a ha b hb => ?_⟩
      obtain ⟨j, hj, rfl⟩ := pickL_at k ha
      obtain rfl : b = f k := by simpa using hb
      exact h j k hj (by omega)
    · exact ih
/-- chosen out of a list -/
def picks (v : Nat) (L : List Int) : List Int := pickL v (ixL L) L.length
theorem picks_sub {v : Nat} {L : List Int} {x : Int} (h : x ∈ picks v L) : x ∈ L := by
  obtain ⟨j, hj, rfl⟩ := pickL_at _ h
  exact ixL_mem hj
theorem picks_pw {v : Nat} {L : List Int} (h : L.Pairwise (· < ·)) : (picks v L).Pairwise (· < ·) := by
  refine pickL_pw _ fun i j hij hj => ?_
  rw [List.pairwise_iff_getElem] at h
  have := h i j (by omega) hj hij
  unfold ixL
  rw [List.getD_eq_getElem?_getD, List.getD_eq_getElem?_getD, List.getElem?_eq_getElem hj, List.getElem?_eq_getElem (by omega)]
  exact this

theorem bool_eq_of_iff {a b : Bool} (h : a = true ↔ b = true) : a = b := by
  cases a <;> cases b <;> simp at h ⊢

section
variable {S : Nat → Int} {sn : Nat} {l : Nat → Int} {m : Nat} {x : Int}
/-- the factors of a set that favour a side -/
def favL (S : Nat → Int) (l : Nat → Int) (m : Nat) (x : Int) : List Int := fltL (favP S x) l m
theorem favL_mem {z : Int} : z ∈ favL S l m x ↔ S z.toNat = x ∧ hasB l z m = true := by
  rw [favL, fltL_mem, favP, decide_eq_true_eq]
theorem favL_len : (favL S l m x).length ≤ m := fltL_len _ _ _
theorem favL_pw (h : okS sn l m = true) : (favL S l m x).Pairwise (· < ·) := fltL_pw m (okS_lt h)
theorem fav_range (h : okS sn l m = true) {z : Int} (hz : hasB l z m = true) : 0 ≤ z ∧ z < sn := by
  obtain ⟨k, hk, rfl⟩ := (hasB_iff m).1 hz
  exact (okS_at m h k hk).1
/-- any part of these is a reason -/
theorem rea_sub {L : List Int} (h : okS sn l m = true) (hp : L.Pairwise (· < ·)) (hs : ∀ z ∈ L, z ∈ favL S l m x) : reaB S sn l m (ixL L) L.length x = true := by
  unfold reaB
  rw [ok_list hp (fun z hz => fav_range h (favL_mem.1 (hs z hz)).2), all_list.2 (fun z hz => (favL_mem.1 (hs z hz)).2), side_list.2 (fun z hz => (favL_mem.1 (hs z hz)).1)]
  rfl
theorem rea_all (h : okS sn l m = true) : reaB S sn l m (ixL (favL S l m x)) (favL S l m x).length x = true := rea_sub h (favL_pw h) (fun _ hz => hz)
theorem rea_picks (h : okS sn l m = true) (v : Nat) : reaB S sn l m (ixL (picks v (favL S l m x))) (picks v (favL S l m x)).length x = true := rea_sub h (picks_pw (favL_pw h)) (fun _ hz => picks_sub hz)

variable {n : Nat} {no hr wi : Nat → Int} {fn : Nat → Nat} {F : Nat → Nat → Int} {rn : Nat → Nat} {R : Nat → Nat → Int}
theorem bndL_iff {side : Int} {j : Nat} : bndL S wi fn F rn R l m side j = true ↔ wi j = side ∧ allB (R j) l m (rn j) = true ∧ ∀ z, hasB l z m = true → S z.toNat ≠ wi j → hasB (F j) z (fn j) = true := by
  unfold bndL
  rw [Bool.and_eq_true, Bool.and_eq_true, decide_eq_true_eq, decide_eq_true_eq, List.length_eq_zero_iff, List.eq_nil_iff_forall_not_mem, and_assoc]
  refine and_congr_right fun _ => and_congr_right fun _ => ?_
  constructor
  · intro h z h1 h2
    cases h3 : hasB (F j) z (fn j) with
    | true => rfl
    | false => exact absurd ((fltL_mem m).2 ⟨by simp [misP, h2, h3], h1⟩) (h z)
  · intro h z hz
    obtain ⟨h1, h2⟩ := (fltL_mem m).1 hz
    simp only [misP, Bool.and_eq_true, Bool.not_eq_true', decide_eq_false_iff_not] at h1
    rw [h z h2 h1.1] at h1
    cases h1.2
theorem mayL_iff {L : List Int} {side : Int} {j : Nat} : mayL wi fn F rn R l m (ixL L) L.length side j = true ↔ wi j ≠ side ∧ allB (R j) l m (rn j) = true ∧ ∀ z ∈ L, hasB (F j) z (fn j) = true := by
  unfold mayL claL
  rw [Bool.and_eq_true, Bool.and_eq_true, all_list, and_assoc]
  simp
/-- a case binds a side exactly if it forbids to decide for the other one by all its factors -/
theorem bnd_may (h : (chkE S sn n no hr wi fn F rn R) = 0) (hl : okS sn l m = true) {t : Int} (ht : t = 0 ∨ t = 1) {j : Nat} (hj : j < n) : bndL S wi fn F rn R l m t j = mayL wi fn F rn R l m (ixL (favL S l m (1 - t))) (favL S l m (1 - t)).length (1 - t) j := by
  obtain ⟨h1, h2, h3, h4⟩ := book_at h
  obtain ⟨h5, _⟩ := h4 j hj
  refine bool_eq_of_iff ?_
  rw [bndL_iff, mayL_iff]
  have e : wi j = t ↔ wi j ≠ 1 - t := by omega
  rw [← e]
  refine and_congr_right fun e1 => and_congr_right fun _ => ?_
  constructor
  · intro hz z h6
    obtain ⟨h7, h8⟩ := favL_mem.1 h6
    exact hz z h8 (by omega)
  · intro hz z h6 h7
    have h8 := fav_range hl h6
    have h9 := sidB_at sn h3 z.toNat (by omega)
    exact hz z (favL_mem.2 ⟨by omega, h6⟩)
theorem fst_isNone {p : Nat → Bool} : (fstB p 0 n).isNone = true ↔ ∀ j, j < n → p j = false := by
  constructor
  · intro h j hj
    have : fstB p 0 n = none := by simpa using h
    exact fstB_none n 0 this j (by omega) (by omega)
  · intro h
    have := fstB_skip (p := p) n 0 0 (fun j _ h2 => h j (by omega))
    rw [show fstB p 0 n = none from this]; rfl
theorem fst_isSome {p : Nat → Bool} : (fstB p 0 n).isSome = true ↔ ∃ j, j < n ∧ p j = true := by
  constructor
  · intro h
    obtain ⟨k, hk⟩ := Option.isSome_iff_exists.1 h
    obtain ⟨h1, h2, _⟩ := fstB_some n 0 k hk
    exact ⟨k, by omega, h2⟩
  · rintro ⟨j, hj, h⟩
    cases h1 : fstB p 0 n with
    | some k => rfl
    | none => rw [fstB_none n 0 h1 j (by omega) (by omega)] at h; cases h
theorem some_not_none {α : Type} (o : Option α) : o.isNone = !o.isSome := by cases o <;> rfl
/-- the main theorem's first part -/
theorem fortiori_eq (h : (chkE S sn n no hr wi fn F rn R) = 0) (hl : okS sn l m = true) {t : Int} (ht : t = 0 ∨ t = 1) :
    (fstB (bndP S sn wi fn F rn R l m t) 0 n).isSome = (fstB (mayP wi fn F rn R l m (ixL (favL S l m (1 - t))) (favL S l m (1 - t)).length (1 - t)) 0 n).isSome := by
  rw [fstB_congr (p := bndP S sn wi fn F rn R l m t) (q := mayP wi fn F rn R l m (ixL (favL S l m (1 - t))) (favL S l m (1 - t)).length (1 - t)) n 0 (fun j _ hj => ?_)]
  have hj' : j < n := by omega
  have hr : okS sn (ixL (favL S l m (1 - t))) (favL S l m (1 - t)).length = true := by
    have := rea_all (S := S) (x := 1 - t) hl
    unfold reaB at this
    rw [Bool.and_eq_true, Bool.and_eq_true] at this
    exact this.1.1
  rw [bnd_eq h hl t hj', may_eq h hl hr (1 - t) hj', bnd_may h hl ht hj']
/-- a lesser reason is not permitted if a greater one is not -/
theorem fewer_may (h : (chkE S sn n no hr wi fn F rn R) = 0) (hl : okS sn l m = true) {side : Int} {L L' : List Int} (hL : okS sn (ixL L) L.length = true) (hL' : okS sn (ixL L') L'.length = true) (hs : ∀ z ∈ L', z ∈ L)
    (hf : (fstB (mayP wi fn F rn R l m (ixL L') L'.length side) 0 n).isNone = true) : (fstB (mayP wi fn F rn R l m (ixL L) L.length side) 0 n).isNone = true := by
  rw [fst_isNone] at hf ⊢
  intro j hj
  have h1 := hf j hj
  rw [may_eq h hl hL' side hj] at h1
  rw [may_eq h hl hL side hj]
  rw [Bool.eq_false_iff] at h1 ⊢
  intro h2
  rw [mayL_iff] at h2
  exact h1 (mayL_iff.2 ⟨h2.1, h2.2.1, fun z hz => h2.2.2 z (hs z hz)⟩)
theorem ok_of_rea {L : List Int} {x : Int} (h : reaB S sn l m (ixL L) L.length x = true) : okS sn (ixL L) L.length = true := by
  unfold reaB at h
  rw [Bool.and_eq_true, Bool.and_eq_true] at h
  exact h.1.1
end

/-! ### the bits of a number of 32 bits -/
theorem bit32_one {v k : Nat} (hv : v < 4294967296) (h : v.testBit k = true) : bits .and .u32 ((v : Int) / 2 ^ k) 1 = 1 := by
  have e : (v : Int) / 2 ^ k = ((v / 2 ^ k : Nat) : Int) := by simp
  have h1 : v / 2 ^ k < 4294967296 := Nat.lt_of_le_of_lt (Nat.div_le_self _ _) hv
  have h2 := u32_and_nat (v / 2 ^ k) 1 h1 (by decide)
  rw [Nat.testBit_eq_decide_div_mod_eq, decide_eq_true_eq] at h
  rw [e]
  refine h2.trans ?_
  rw [nat_mask1, h]; rfl
theorem bit32_zero {v k : Nat} (hv : v < 4294967296) (h : v.testBit k = false) : bits .and .u32 ((v : Int) / 2 ^ k) 1 = 0 := by
  have e : (v : Int) / 2 ^ k = ((v / 2 ^ k : Nat) : Int) := by simp
  have h1 : v / 2 ^ k < 4294967296 := Nat.lt_of_le_of_lt (Nat.div_le_self _ _) hv
  have h2 := u32_and_nat (v / 2 ^ k) 1 h1 (by decide)
  rw [Nat.testBit_eq_decide_div_mod_eq, decide_eq_false_iff_not] at h
  rw [e]
  refine h2.trans ?_
  rw [nat_mask1, show v / 2 ^ k % 2 = 0 by omega]; rfl
end Go.Proofs.Ytbojjhdcmogjdaa
