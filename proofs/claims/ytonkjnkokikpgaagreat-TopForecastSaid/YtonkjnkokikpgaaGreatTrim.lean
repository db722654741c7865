/- Contract of ensembles' trim. -/
import Derived.Test.YtonkjnkokikpgaaGreatSorted
import Derived.BigQuiet
import Derived.IntWalk
namespace Go.Proofs.YtonkjnkokikpgaaGreat
open Go.RowKit Go.Shelf Go.Sort

/-- slices.Sort of an own row: the members, in order -/
theorem sort_47s (base g n cap : Nat) (f : Nat → Int) (w : World) (hn : 0 < n) (hn2 : n < 4611686018427387904) (hown : w.ownsRow base 3 1 (.slice (some ⟨g, 0, none⟩) n cap) n (rowOf f n)) :
    Calls Tryz.prog 47 #[.slice (some ⟨g, 0, none⟩) n cap] w fun e w' => e = .returned (.tuple #[]) ∧ (∃ S : List Int, S.length = n ∧ (∀ y, y ∈ S ↔ ∃ j, j < n ∧ y = f j) ∧ S.Pairwise (fun a b => a ≤ b) ∧ Holds (Value.int .i64) w' g 0 S.toArray) ∧ w.grownBy w' (some g) ∧ g < w.heap.size ∧ base ≤ g ∧ n ≤ cap := by
  rw [rowOf_map] at hown
  obtain ⟨g', cap', e, hbg, hgl, hnc, hcm, hlen, hH⟩ := Lib.holds_of_ownsRow hown (by intro h; cases h)
  injection e with e1 _ e3
  injection e1 with e1
  injection e1 with e1
  subst e1 e3
  have h := Tryz.slices_Sort_int g 0 cap ((List.range n).map f) w hH hgl (by omega)
  rw [hlen] at h
  refine h.mono ?_
  rintro e w' ⟨rfl, q, os, rfl⟩
  refine ⟨rfl, ⟨((List.range n).map f).mergeSort fun x y => decide (x ≤ y), by rw [List.length_mergeSort, hlen], fun y => ?_, ?_, ?_⟩, grownBy_sortedI _, hgl, hbg, hnc⟩
  · rw [List.mem_mergeSort, List.mem_map]
    constructor
    · rintro ⟨j, hj, rfl⟩
      exact ⟨j, List.mem_range.1 hj, rfl⟩
    · rintro ⟨j, hj, rfl⟩
      exact ⟨j, List.mem_range.2 hj, rfl⟩
  · have h1 := List.pairwise_mergeSort (le := fun x y : Int => decide (x ≤ y)) (fun a b c h1 h2 => by simp at *; omega) (fun a b => by simp; omega) ((List.range n).map f)
    exact h1.imp fun h => by simpa using h
  · exact holds_grow _ _ os g 0 _ (by simpa [putRow, mapBlock, Sort.ahead] using hgl) (holds_putRow _ _ g 0 _ _ (holds_ahead _ w q g 0 _ hH) (by simp))
/-- the least and the greatest of some numbers -/
def LoHi (f : Nat → Int) (n : Nat) (a b : Int) : Prop := ((∃ i, i < n ∧ a = f i) ∧ ∀ i, i < n → a ≤ f i) ∧ (∃ i, i < n ∧ b = f i) ∧ ∀ i, i < n → f i ≤ b
theorem lohi_of {S : List Int} {n i j : Nat} {f : Nat → Int} (hS : S.length = n) (hn : 0 < n) (hm : ∀ y, y ∈ S ↔ ∃ j, j < n ∧ y = f j) (hp : S.Pairwise (fun a b => a ≤ b)) (hi : i = 0) (hj : j + 1 = n) : LoHi f n S.toArray[i]! S.toArray[j]! := by
  subst hi
  have e0 : S.toArray[0]! = S[0] := by simp [show 0 < S.length by omega]
  have e1 : S.toArray[j]! = S[j] := by simp [show j < S.length by omega]
  rw [e0, e1]
  refine ⟨⟨(hm _).1 (List.getElem_mem _), fun i hi => ?_⟩, (hm _).1 (List.getElem_mem _), fun i hi => ?_⟩
  · obtain ⟨k, hk, e⟩ := List.mem_iff_getElem.1 ((hm (f i)).2 ⟨i, hi, rfl⟩)
    rw [← e]
    rcases Nat.eq_zero_or_pos k with h | h
    · subst h; exact Int.le_refl _
    · exact List.pairwise_iff_getElem.1 hp 0 k (by omega) hk h
  · obtain ⟨k, hk, e⟩ := List.mem_iff_getElem.1 ((hm (f i)).2 ⟨i, hi, rfl⟩)
    rw [← e]
    by_cases h : k = j
    · subst h; exact Int.le_refl _
    · exact List.pairwise_iff_getElem.1 hp k j hk (by omega) (by omega)

set_option maxRecDepth 100000 in
set_option maxHeartbeats 1000000 in
theorem trim_62 (base n c : Nat) (A : Option Addr) (f : Nat → Int) (lw hg : Int) (w : World) (hn : 0 < n) (hn2 : n ≤ 100000) (h1 : 0 ≤ lw ∧ lw < n) (h2 : 0 ≤ hg ∧ hg < n - lw) (hown : w.ownsRow base 3 1 (.slice A n c) n (rowOf f n)) :
    Calls Tryz.prog 62 #[.slice A n c, .int .i64 lw, .int .i64 hg] w fun e w' => (∃ a b : Int, e = .returned (.tuple #[.int .i64 a, .int .i64 b]) ∧ (lw = 0 → hg = 0 → LoHi f n a b)) ∧ w.grownBy w' (Value.slice A n c).ownBlock := by
  obtain ⟨g, cap, e0, _⟩ := hown.form hn
  injection e0 with e1 _ e3
  subst e1 e3
  have HS := Lib.hid (sort_47s base g n c f w hn (by omega) hown)
  clear hown
  obtain ⟨i, rfl⟩ : ∃ i : Nat, lw = i := ⟨lw.toNat, by omega⟩
  obtain ⟨j, hj⟩ : ∃ j : Nat, (n : Int) - 1 - hg = j := ⟨((n : Int) - 1 - hg).toNat, by omega⟩
  have hi1 : (i : Int) < (n : Int) := by omega
  have hj1 : (j : Int) < (n : Int) := by omega
  have hi2 : i < n := by omega
  have hj2 : j < n := by omega
  have hw1 : IntKind.i64.wrap ((n : Int) - 1) = (n : Int) - 1 := IntWalk.i64_in _ ⟨by omega, by omega⟩
  have hw2 : IntKind.i64.wrap ((n : Int) - 1 - hg) = (j : Int) := by rw [hj]; exact IntWalk.i64_in _ ⟨by omega, by omega⟩
  have HJ : Hid ((i : Int) = 0 → hg = 0 → i = 0 ∧ j + 1 = n) := Lib.hid fun h1 h2 => by omega
  clear hj h1 h2
  go_enter Tryz.func62, Tryz.ntmps62
  go_wp2_with fail
  refine HS.out.mono ?_
  rintro e w1 ⟨rfl, ⟨S, hS, hmem, hprw, hH⟩, hg1, hgl, -, -⟩
  have HLH : Hid ((i : Int) = 0 → hg = 0 → LoHi f n S.toArray[i]! S.toArray[j]!) := Lib.hid fun h1 h2 => lohi_of hS hn hmem hprw (HJ.out h1 h2).1 (HJ.out h1 h2).2
  have HG := Lib.hid hg1
  have q0 := (hH i (by simp; omega)).1
  have q1 := (hH j (by simp; omega)).1
  rw [Nat.zero_add] at q0 q1
  generalize S.toArray[i]! = x0 at q0 HLH
  generalize S.toArray[j]! = x1 at q1 HLH
  clear hg1 hH hS HS hmem hprw HJ
  go_upto_region 2 with fail
  go_quiet (fail)
  go_wp2_with fail
  refine bodyPost_ret (results_tmp2 rfl _ _ _) rfl ?_
  refine ⟨⟨_, _, rfl, HLH.out⟩, ?_⟩
  exact HG.out.trans (grown_drewN (grown_refl _ _) _)
end Go.Proofs.YtonkjnkokikpgaaGreat
