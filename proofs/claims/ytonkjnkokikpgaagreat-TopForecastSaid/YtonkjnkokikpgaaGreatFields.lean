/- Arguments that are structs of one-cell fields, by value: their fields' readings. Plain lemmas; no condition. -/
import Derived.Test.YtonkjnkokikpgaaGreatModel
import Derived.ProofKit
import Derived.OpenShut
import Derived.WideKeyArgs
import Derived.ChangeSame
import Derived.Deep.Slices
import Derived.Deep.SlicePairs
import Derived.Deep.Fields
import Derived.Lib.SmallJoins
namespace Go.Proofs.YtonkjnkokikpgaaGreat
open Go.ChangeShapes Go.WideShapes Go.ChangeAt Go.RowKit Go.Deep

section
variable {H : Type} {enc : TypeId × Value → H} {P : Program} {w : World} {base : Nat} {spare : Nat → Bool} {held : Bool}
/-- the cells of a struct of one-cell fields, read one by one -/
theorem cells_fields {t : TypeId} {fs : Array Field} (hs : P.underlying t = some (.struct fs)) (hone : oneCellFields P fs = true) {fuel : Nat} {cs : List Value} (hl : cs.length = fs.size) {x : DataW H × List MemPlace}
    (h : DataW.trod enc P w base spare held fuel t cs = some x) : ∃ n : Nat, ∀ (i : Nat) (f : Field) (v : Value), fs[i]? = some f → cs[i]? = some v → ∃ y, DataW.trod enc P w base spare held n f.type [v] = some y := by
  obtain ⟨ys, n, _, _, _, hlen, hg⟩ := DataW.trod_struct hs h
  refine ⟨n, fun i f v hf hv => ?_⟩
  obtain ⟨o, k⟩ := hone_of hone i f hf
  have hi : i < cs.length := (List.getElem?_eq_some_iff.1 hv).1
  have hiy : i < ys.length := by rw [hlen, ← hl]; exact hi
  have e : (cs.drop i).take 1 = [v] := by
    rw [List.drop_eq_getElem_cons hi, (List.getElem?_eq_some_iff.1 hv).2]
    rfl
  have g := hg i f hf
  rw [o, k, e, List.getElem?_eq_getElem hiy] at g
  exact ⟨_, g⟩
/-- a struct by value -/
theorem open_fields {r : Reach} {b0 : Nat} {t : TypeId} {fs : Array Field} {v : Value} {d : DataW H} {p : List MemPlace} (hs : P.underlying t = some (.struct fs)) (hone : oneCellFields P fs = true) (hC : P.cellsOf t = fs.size)
    (hv : Value.okWide P w r b0 t v) (h : DataW.Trod enc P w base spare held t v d p) :
    ∃ (cs : List Value) (n : Nat), v = .agg cs.toArray ∧ cs.length = fs.size ∧ ∀ (i : Nat) (f : Field) (x : Value), fs[i]? = some f → cs[i]? = some x → ∃ y, DataW.trod enc P w base spare held n f.type [x] = some y := by
  obtain ⟨cs, rfl, hsz⟩ := okWide_struct hs hv
  obtain ⟨l⟩ := cs
  obtain ⟨fuel, hf⟩ := h
  have hl : l.length = fs.size := by simpa using hsz.trans hC
  obtain ⟨n, hn⟩ := cells_fields hs hone hl (by simpa [Value.cells] using hf)
  exact ⟨l, n, rfl, hl, hn⟩
end
end Go.Proofs.YtonkjnkokikpgaaGreat
