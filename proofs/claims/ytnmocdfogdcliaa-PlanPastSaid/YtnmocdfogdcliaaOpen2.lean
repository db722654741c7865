/- An argument of type []uint32, opened. Plain lemmas. -/
import Derived.Test.YtnmocdfogdcliaaOpen
namespace Go.Proofs.Ytnmocdfogdcliaa
open Go.ChangeShapes Go.WideShapes Go.ChangeAt Go.RowKit Go.Deep

section
variable {H : Type} {enc : TypeId × Value → H} {W : World} {r : Reach} {b0 : Nat} {v : Value} {d : DataW H} {p : List MemPlace}
theorem open_u32s (hv : Value.okWide Try.prog W r b0 45 v) (h : DataW.Trod enc Try.prog W 0 (fun _ => true) true 45 v d p) :
    ∃ (A : Option Addr) (n c : Nat) (f : Nat → Int), v = .slice A n c ∧ n ≤ c ∧ c ≤ 9223372036854775807 ∧ (∀ j, 0 ≤ f j ∧ f j ≤ 4294967295) ∧ Rd W W.heap.size A n (fun j => .int .u32 (f j)) := by
  obtain ⟨A, n, c, rfl⟩ := okWide_slice Try.underlying45 hv
  obtain ⟨fuel, hf⟩ := h
  rcases open_ints Try.underlying45 Try.underlying52 (by kernel_rfl) hf with ⟨hcs, _⟩ | ⟨a, len, cap, zs, hcs, _, hl, hm, hz, _, hc, hw⟩
  · obtain ⟨rfl, rfl, rfl⟩ : A = none ∧ n = 0 ∧ c = 0 := by simpa [Value.cells] using hcs
    exact ⟨none, 0, 0, fun _ => 0, rfl, by omega, by omega, fun _ => by show (0 : Int) ≤ 0 ∧ (0 : Int) ≤ 4294967295; omega, Rd.nil⟩
  · obtain ⟨rfl, rfl, rfl⟩ : A = some a ∧ n = len ∧ c = cap := by simpa [Value.cells] using hcs
    rw [if_pos rfl] at hz
    unfold maxLen at hm
    refine ⟨_, _, _, fun j => zs.getD j 0, rfl, hl, hm, fun j => ?_, fun hn => ?_⟩
    · by_cases hj : j < zs.length
      · have := bounds_u32 (hw zs[j] (List.getElem_mem hj))
        simpa [List.getD, hj] using this
      · simp only [List.getD, List.getElem?_eq_none (by omega : zs.length ≤ j), Option.getD_none]
        omega
    · have h0 := hc 0 (by omega)
      have hb : a.block < W.heap.size := World.block_lt_of_cell? W (a.add 0) h0
      exact Rd.of_add (m := n) hb (fun j hj => hc j (by omega)) hn
end
end Go.Proofs.Ytnmocdfogdcliaa
