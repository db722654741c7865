/- An argument of type []uint32, opened, with its room. Plain lemmas. -/
import Derived.Test.YtnmocdfogdcliaaOpen2
import Derived.SizedLaws
namespace Go.Proofs.Ytnmocdfogdcliaa
open Go.ChangeShapes Go.WideShapes Go.ChangeAt Go.RowKit Go.Deep

section
variable {H : Type} {enc : TypeId × Value → H} {W : World} {r : Reach} {b0 : Nat} {v : Value} {d : DataW H} {p : List MemPlace}
theorem open_u32s_room (hv : Value.okWide Try.prog W r b0 45 v) (h : DataW.Trod enc Try.prog W 0 (fun _ => true) true 45 v d p) :
    ∃ (A : Option Addr) (n c : Nat) (f : Nat → Int), v = .slice A n c ∧ n ≤ c ∧ c ≤ 9223372036854775807 ∧ (∀ j, 0 ≤ f j ∧ f j ≤ 4294967295) ∧ Rd W W.heap.size A n (fun j => .int .u32 (f j)) ∧ (A = none → n = 0 ∧ c = 0) ∧ (n = 0 ∨ ∃ elems spare, d = .slice elems spare ∧ elems.length = n) := by
  obtain ⟨A, n, c, f, rfl, h1, h2, h3, h4⟩ := open_u32s hv h
  refine ⟨A, n, c, f, rfl, h1, h2, h3, h4, ?_, ?_⟩ <;>
  · obtain ⟨fuel, hf⟩ := h
    rcases open_ints Try.underlying45 Try.underlying52 (by kernel_rfl) hf with ⟨hcs, _⟩ | ⟨a, len, cap, zs, hcs, _, hl, hm, hz, hx, _, _⟩
    · obtain ⟨rfl, rfl, rfl⟩ : A = none ∧ n = 0 ∧ c = 0 := by simpa [Value.cells] using hcs
      simp
    · obtain ⟨rfl, rfl, rfl⟩ : A = some a ∧ n = len ∧ c = cap := by simpa [Value.cells] using hcs
      rw [if_pos rfl] at hz
      injection hx with hd _
      first
        | exact fun h => (by cases h)
        | exact .inr ⟨_, _, hd, by simp [lits]; omega⟩
theorem bytes52 : Try.prog.bytesOf 52 = 4 := by kernel_rfl
end
end Go.Proofs.Ytnmocdfogdcliaa
