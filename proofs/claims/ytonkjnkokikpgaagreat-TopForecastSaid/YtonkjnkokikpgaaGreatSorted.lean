/- Contracts of slices.Sort in the words of an own row, and of calibrate's sorted. -/
import Derived.Test.YtonkjnkokikpgaaGreatShelf
import Derived.Test.YtonkjnkokikpgaaGreatApart
import Derived.Lib.OwnBridge
import Derived.Sort.Grow
import Derived.Sort.OwnSortedInts
namespace Go.Proofs.YtonkjnkokikpgaaGreat
open Go.RowKit Go.Shelf Go.Sort

theorem rowOf_map (f : Nat → Int) (n : Nat) : rowOf f n = ((List.range n).map f).map (Value.int .i64) := by simp [rowOf]
/-- what an own row of integers holds, read by a list -/
def lsF (ys : List Int) (j : Nat) : Int := ys.getD j 0
theorem rd_of_holds {w : World} {g k : Nat} {ys : List Int} (hg : g < w.heap.size) (h : Holds (Value.int .i64) w g 0 ys.toArray) (hk : k ≤ ys.length) : Rd w w.heap.size (some ⟨g, 0, none⟩) k (fun j => .int .i64 (lsF ys j)) := fun _ =>
  ⟨g, 0, rfl, hg, fun j hj => by
    have h1 := (h j (by simp; omega)).1
    rw [h1]
    have : j < ys.length := by omega
    simp [lsF, List.getD, this]⟩
/-- slices.Sort of an own row -/
theorem sort_47 (base g n cap : Nat) (f : Nat → Int) (w : World) (hn : 0 < n) (hn2 : n < 4611686018427387904) (hown : w.ownsRow base 3 1 (.slice (some ⟨g, 0, none⟩) n cap) n (rowOf f n)) :
    Calls Tryz.prog 47 #[.slice (some ⟨g, 0, none⟩) n cap] w fun e w' => e = .returned (.tuple #[]) ∧ (∃ S : List Int, S.length = n ∧ (∀ y, y ∈ S ↔ ∃ j, j < n ∧ y = f j) ∧ Holds (Value.int .i64) w' g 0 S.toArray) ∧ w.grownBy w' (some g) ∧ g < w.heap.size ∧ base ≤ g ∧ n ≤ cap := by
  rw [rowOf_map] at hown
  obtain ⟨g', cap', e, hbg, hgl, hnc, hcm, hlen, hH⟩ := Lib.holds_of_ownsRow hown (by intro h; cases h)
  injection e with e1 _ e3
  injection e1 with e1
  injection e1 with e1
  subst e1 e3
  have h := Tryz.slices_Sort_int g 0 cap ((List.range n).map f) w hH hgl (by omega)
  rw [hlen] at h
  refine h.mono ?_
  rintro e w' ⟨rfl, q, os, rfl⟩
  refine ⟨rfl, ⟨((List.range n).map f).mergeSort fun x y => decide (x ≤ y), by rw [List.length_mergeSort, hlen], fun y => ?_, ?_⟩, grownBy_sortedI _, hgl, hbg, hnc⟩
  · rw [List.mem_mergeSort, List.mem_map]
    constructor
    · rintro ⟨j, hj, rfl⟩
      exact ⟨j, List.mem_range.1 hj, rfl⟩
    · rintro ⟨j, hj, rfl⟩
      exact ⟨j, List.mem_range.2 hj, rfl⟩
  · exact holds_grow _ _ os g 0 _ (by simpa [putRow, mapBlock, Sort.ahead] using hgl) (holds_putRow _ _ g 0 _ _ (holds_ahead _ w q g 0 _ hH) (by simp))

theorem compactUpTo_mem (d : Array Int) (m : Nat) (y : Int) : y ∈ Lib.compactUpTo d m ↔ ∃ j, j < m ∧ y = d[j]! := by
  unfold Lib.compactUpTo
  rw [List.mem_map]
  constructor
  · rintro ⟨j, hj, rfl⟩
    rw [List.mem_filter, List.mem_range] at hj
    exact ⟨j, hj.1, rfl⟩
  · rintro ⟨j, hj, rfl⟩
    induction j with
    | zero => exact ⟨0, by rw [List.mem_filter, List.mem_range]; exact ⟨hj, by simp [Lib.keeps]⟩, rfl⟩
    | succ j ih =>
      by_cases h : d[j + 1]! = d[j]!
      · obtain ⟨i, hi, e⟩ := ih (by omega)
        exact ⟨i, hi, by rw [e, h]⟩
      · exact ⟨j + 1, by rw [List.mem_filter, List.mem_range]; exact ⟨hj, by simp [Lib.keeps, h]⟩, rfl⟩
theorem compact_mem (zs : List Int) (y : Int) : y ∈ Lib.compact zs ↔ y ∈ zs := by
  unfold Lib.compact
  rw [compactUpTo_mem]
  constructor
  · rintro ⟨j, hj, rfl⟩
    simp [hj]
  · intro h
    obtain ⟨j, hj, rfl⟩ := List.mem_iff_getElem.1 h
    exact ⟨j, hj, by simp [hj]⟩

set_option maxRecDepth 100000 in
set_option maxHeartbeats 4000000 in
/-- the elements of a list, each once -/
theorem sorted_19 (A : Option Addr) (n c B : Nat) (f : Nat → Int) (w : World) (hn : 0 < n) (hn2 : n ≤ 100000) (hr : Rd w B A n (fun j => .int .i64 (f j))) :
    Calls Tryz.prog 19 #[.slice A n c] w fun e w' => ∃ (R : Option Addr) (rc : Nat) (ys : List Int), e = .returned (.slice R ys.length rc) ∧ Rd w' w'.heap.size R ys.length (fun j => .int .i64 (lsF ys j)) ∧ (∀ y, y ∈ ys ↔ ∃ j, j < n ∧ y = f j) ∧ ys.length ≤ n ∧ Below w.heap.size w w' := by
  obtain ⟨b, o, rfl, _, hc⟩ := hr hn
  have HCL := Lib.hid (Tryz.slices_Clone_int b o n c ((List.range n).map f) w (by simp) (by omega) (fun j hj => by
    have hj' : j < n := by simpa using hj
    rw [hc j hj']
    simp [List.getD, hj']))
  have ht : ((List.range n).map f).take n = (List.range n).map f := List.take_of_length_le (by simp)
  rw [ht, ← rowOf_map] at HCL
  clear hc hr ht
  go_enter Tryz.func19, Tryz.ntmps19
  go_wp2_with fail
  refine HCL.out.mono ?_
  rintro e w1 ⟨v1, rfl, hown, hnn, hb⟩
  have hown2 := hown
  rw [rowOf_map] at hown2
  obtain ⟨g, cap, rfl, hbg, hgl, hnc, hcm, hlen, hH⟩ := Lib.holds_of_ownsRow hown2 hnn
  have HO := Lib.hid hown
  have HB1 := Lib.hid hb
  clear hown hown2 hnn hb hH hlen HCL
  go_wp2_with fail
  refine (sort_47 w.heap.size g n cap f w1 hn (by omega) HO.out).mono ?_
  rintro e w2 ⟨rfl, ⟨S, hS, hmem, hH⟩, hg, -, -, -⟩
  have HB2 : Hid (Below w.heap.size w w2) := Lib.hid (HB1.out.grown hg HB1.out.size (fun j hj => by cases hj; exact hbg))
  have hgl2 : g < w2.heap.size := Nat.lt_of_lt_of_le hgl hg.size
  have HM := Lib.hid hmem
  have HC2 := Lib.hid (Tryz.slices_Compact_int g 0 cap S w2 hH (by omega) (by omega))
  rw [hS] at HC2
  have HH := Lib.hid hH
  have HSL := Lib.hid hS
  clear hmem hg hH hS HO HB1
  go_wp2_with fail
  refine HC2.out.mono ?_
  rintro e w3 ⟨rfl, q, hw3⟩
  have hcl : (Lib.compact S).length ≤ n := by have := Lib.compact_length_le S; have := HSL.out; omega
  have hsz3 : w3.heap.size = w2.heap.size := by rw [hw3]; simp [putRow, mapBlock, Sort.ahead]
  have HRD : Hid (Rd w3 w3.heap.size (some ⟨g, 0, none⟩) (Lib.compact S).length (fun j => .int .i64 (lsF (Lib.compact S) j))) := Lib.hid (by
    have h1 : Holds (Value.int .i64) w3 g 0 (Lib.compact S ++ List.replicate (n - (Lib.compact S).length) 0).toArray := by
      rw [hw3]
      exact holds_putRow _ _ g 0 S.toArray _ (holds_ahead _ w2 q g 0 _ HH.out) (by have h1 := HSL.out; have h2 := Lib.compact_length_le S; rw [List.size_toArray, List.size_toArray, List.length_append, List.length_replicate]; omega)
    intro h0
    refine ⟨g, 0, rfl, by omega, fun j hj => ?_⟩
    have h2 := (h1 j (by simp; omega)).1
    rw [h2, getElem!_pos _ j (by simp; omega)]
    simp only [List.getElem_toArray, List.getElem_append_left hj]
    simp [lsF, List.getD, hj])
  have HB3 : Hid (Below w.heap.size w w3) := Lib.hid (by
    have hg3 : w2.grownBy w3 (some g) := by rw [hw3]; have := grownBy_sortedI (w := w2) (g := g) (n := q) (os := #[]) (Lib.compact S ++ List.replicate (n - (Lib.compact S).length) 0).toArray; rwa [grow_empty] at this
    exact HB2.out.grown hg3 HB2.out.size (fun j hj => by cases hj; exact hbg))
  have HMC : Hid (∀ y, y ∈ Lib.compact S ↔ ∃ j, j < n ∧ y = f j) := Lib.hid fun y => by rw [compact_mem]; exact HM.out y
  clear hw3 HC2 HH HM
  generalize Lib.compact S = ys at *
  go_wp2_with fail
  go_ret
  exact ⟨_, cap, ys, rfl, HRD.out, HMC.out, hcl, HB3.out⟩
end Go.Proofs.YtonkjnkokikpgaaGreat
