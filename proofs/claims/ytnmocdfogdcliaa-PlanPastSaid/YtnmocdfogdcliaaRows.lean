/-
  No cell of these rows narrows 'for every input' (looked for: loops, veiled, ifaces, maps, wideKeys, modest, calm, conditions, laid).
  DERIVED. THE GIVEN ROWS OF THIS SEAT. 8 by the template 'for every input the law returns true; each argument reads behind the call as it read before'; 0 by the template 'total and deterministic' (their statements: YtnmocdfogdcliaaTotals.lean).
  GIVEN WITH THE SEED: the statements are not yours to turn. If you find one false, say at which input.
  Laid BY PROGRAM, IN A SANDBOX (cutbox-rows.mjs): the forced cells as the released guide's own fill.sh prints them over the translation e86ed46f590b1a7f… (all of the seat's roots in one cut). By AI agents, Wed Nov 11 2026. No macro, syntax, notation, axiom, sorry.
-/
import Derived.Test.YtnmocdfogdcliaaChecked
import GoSem.Claim
import GoSem.ClaimJoined
import GoSem.ClaimMapViews
import Derived.JoinedTies
import Derived.KernelRfl
namespace Go.Proofs.Ytnmocdfogdcliaa
/- THE CELL 'sum', in the pinned program and in every row, IS THE sha256 OF THE DUMP (.gsa) THAT YtnmocdfogdcliaaProg.lean LOADS. Nothing in Lean hashes anything: it is a label: what it is worth is what the hold of that sum in a sandbox is worth. -/
noncomputable def Try.pinned : Pinned := { name := "ytnmocdfogdcliaa", sum := "e86ed46f590b1a7ff8b98828e7e695884fc2036a01989e4ef0ca98b981cc2f45", checked := Try.checked }
namespace Rows
def none {H : Type} : Left H := { results := [], args := [] }

/-- 'acequialaw39.PlanSpec': WHATEVER THE INPUT: true; the input reads as it did. -/
def planSpecSpec : ChangeSpec := { name := "planSpec", fn := fun _ => fun
  | [d] => { results := [.lit (.bool true)], args := [d] }
  | _ => none }
def planSpecRow : OpenClaim := { program := "ytnmocdfogdcliaa", sum := "e86ed46f590b1a7ff8b98828e7e695884fc2036a01989e4ef0ca98b981cc2f45", func := "acequia/acequialaw39.PlanSpec", spec := "planSpec", unfollowed := true, recurses := true, apart := false }
def PlanSpecSaid : Prop := planSpecRow.holds Try.pinned (OpenSpec.ofChange planSpecSpec)

/-- ITS FALSE NEIGHBOUR: 'it returns false'. Refute it at one input. -/
def planSpecWrong : ChangeSpec := { name := "planSpec", fn := fun _ => fun
  | [d] => { results := [.lit (.bool false)], args := [d] }
  | _ => none }
def PlanSpecWrongFalsely : Prop := planSpecRow.holds Try.pinned (OpenSpec.ofChange planSpecWrong)

/-- 'acequialaw39.PlanStepSpec': WHATEVER THE INPUT: true; the input reads as it did. -/
def planStepSpecSpec : ChangeSpec := { name := "planStepSpec", fn := fun _ => fun
  | [d1, d2, d3, d4, d5] => { results := [.lit (.bool true)], args := [d1, d2, d3, d4, d5] }
  | _ => none }
def planStepSpecRow : OpenClaim := { program := "ytnmocdfogdcliaa", sum := "e86ed46f590b1a7ff8b98828e7e695884fc2036a01989e4ef0ca98b981cc2f45", func := "acequia/acequialaw39.PlanStepSpec", spec := "planStepSpec", unfollowed := true, recurses := true, apart := false }
def PlanStepSpecSaid : Prop := planStepSpecRow.holds Try.pinned (OpenSpec.ofChange planStepSpecSpec)

/-- ITS FALSE NEIGHBOUR: 'it returns false'. Refute it at one input. -/
def planStepSpecWrong : ChangeSpec := { name := "planStepSpec", fn := fun _ => fun
  | [d1, d2, d3, d4, d5] => { results := [.lit (.bool false)], args := [d1, d2, d3, d4, d5] }
  | _ => none }
def PlanStepSpecWrongFalsely : Prop := planStepSpecRow.holds Try.pinned (OpenSpec.ofChange planStepSpecWrong)

/-- 'acequialaw39.PlanFirmSpec': WHATEVER THE INPUT: true; the input reads as it did. -/
def planFirmSpecSpec : ChangeSpec := { name := "planFirmSpec", fn := fun _ => fun
  | [d1, d2] => { results := [.lit (.bool true)], args := [d1, d2] }
  | _ => none }
def planFirmSpecRow : OpenClaim := { program := "ytnmocdfogdcliaa", sum := "e86ed46f590b1a7ff8b98828e7e695884fc2036a01989e4ef0ca98b981cc2f45", func := "acequia/acequialaw39.PlanFirmSpec", spec := "planFirmSpec", unfollowed := true, recurses := true, apart := false }
def PlanFirmSpecSaid : Prop := planFirmSpecRow.holds Try.pinned (OpenSpec.ofChange planFirmSpecSpec)

/-- ITS FALSE NEIGHBOUR: 'it returns false'. Refute it at one input. -/
def planFirmSpecWrong : ChangeSpec := { name := "planFirmSpec", fn := fun _ => fun
  | [d1, d2] => { results := [.lit (.bool false)], args := [d1, d2] }
  | _ => none }
def PlanFirmSpecWrongFalsely : Prop := planFirmSpecRow.holds Try.pinned (OpenSpec.ofChange planFirmSpecWrong)

/-- 'acequialaw39.PlanEither': WHATEVER THE INPUT: true; the input reads as it did. -/
def planEitherSpec : ChangeSpec := { name := "planEither", fn := fun _ => fun
  | [d1, d2] => { results := [.lit (.bool true)], args := [d1, d2] }
  | _ => none }
def planEitherRow : OpenClaim := { program := "ytnmocdfogdcliaa", sum := "e86ed46f590b1a7ff8b98828e7e695884fc2036a01989e4ef0ca98b981cc2f45", func := "acequia/acequialaw39.PlanEither", spec := "planEither", unfollowed := true, recurses := true, apart := false }
def PlanEitherSaid : Prop := planEitherRow.holds Try.pinned (OpenSpec.ofChange planEitherSpec)

/-- ITS FALSE NEIGHBOUR: 'it returns false'. Refute it at one input. -/
def planEitherWrong : ChangeSpec := { name := "planEither", fn := fun _ => fun
  | [d1, d2] => { results := [.lit (.bool false)], args := [d1, d2] }
  | _ => none }
def PlanEitherWrongFalsely : Prop := planEitherRow.holds Try.pinned (OpenSpec.ofChange planEitherWrong)

/-- 'acequialaw39.PlanGame': WHATEVER THE INPUT: true; the input reads as it did. -/
def planGameSpec : ChangeSpec := { name := "planGame", fn := fun _ => fun
  | [d] => { results := [.lit (.bool true)], args := [d] }
  | _ => none }
def planGameRow : OpenClaim := { program := "ytnmocdfogdcliaa", sum := "e86ed46f590b1a7ff8b98828e7e695884fc2036a01989e4ef0ca98b981cc2f45", func := "acequia/acequialaw39.PlanGame", spec := "planGame", unfollowed := true, recurses := true, apart := false }
def PlanGameSaid : Prop := planGameRow.holds Try.pinned (OpenSpec.ofChange planGameSpec)

/-- ITS FALSE NEIGHBOUR: 'it returns false'. Refute it at one input. -/
def planGameWrong : ChangeSpec := { name := "planGame", fn := fun _ => fun
  | [d] => { results := [.lit (.bool false)], args := [d] }
  | _ => none }
def PlanGameWrongFalsely : Prop := planGameRow.holds Try.pinned (OpenSpec.ofChange planGameWrong)

/-- 'acequialaw39.PlanPast': WHATEVER THE INPUT: true; the input reads as it did. -/
def planPastSpec : ChangeSpec := { name := "planPast", fn := fun _ => fun
  | [d1, d2, d3, d4] => { results := [.lit (.bool true)], args := [d1, d2, d3, d4] }
  | _ => none }
def planPastRow : OpenClaim := { program := "ytnmocdfogdcliaa", sum := "e86ed46f590b1a7ff8b98828e7e695884fc2036a01989e4ef0ca98b981cc2f45", func := "acequia/acequialaw39.PlanPast", spec := "planPast", unfollowed := true, recurses := true, apart := false }
def PlanPastSaid : Prop := planPastRow.holds Try.pinned (OpenSpec.ofChange planPastSpec)

/-- ITS FALSE NEIGHBOUR: 'it returns false'. Refute it at one input. -/
def planPastWrong : ChangeSpec := { name := "planPast", fn := fun _ => fun
  | [d1, d2, d3, d4] => { results := [.lit (.bool false)], args := [d1, d2, d3, d4] }
  | _ => none }
def PlanPastWrongFalsely : Prop := planPastRow.holds Try.pinned (OpenSpec.ofChange planPastWrong)

/-- 'acequialaw39.PlanWider': WHATEVER THE INPUT: true; the input reads as it did. -/
def planWiderSpec : ChangeSpec := { name := "planWider", fn := fun _ => fun
  | [d1, d2, d3, d4, d5, d6, d7] => { results := [.lit (.bool true)], args := [d1, d2, d3, d4, d5, d6, d7] }
  | _ => none }
def planWiderRow : OpenClaim := { program := "ytnmocdfogdcliaa", sum := "e86ed46f590b1a7ff8b98828e7e695884fc2036a01989e4ef0ca98b981cc2f45", func := "acequia/acequialaw39.PlanWider", spec := "planWider", unfollowed := true, recurses := true, apart := false }
def PlanWiderSaid : Prop := planWiderRow.holds Try.pinned (OpenSpec.ofChange planWiderSpec)

/-- ITS FALSE NEIGHBOUR: 'it returns false'. Refute it at one input. -/
def planWiderWrong : ChangeSpec := { name := "planWider", fn := fun _ => fun
  | [d1, d2, d3, d4, d5, d6, d7] => { results := [.lit (.bool false)], args := [d1, d2, d3, d4, d5, d6, d7] }
  | _ => none }
def PlanWiderWrongFalsely : Prop := planWiderRow.holds Try.pinned (OpenSpec.ofChange planWiderWrong)

/-- 'acequialaw39.PlanFirm': WHATEVER THE INPUT: true; the input reads as it did. -/
def planFirmSpec : ChangeSpec := { name := "planFirm", fn := fun _ => fun
  | [d1, d2, d3, d4] => { results := [.lit (.bool true)], args := [d1, d2, d3, d4] }
  | _ => none }
def planFirmRow : OpenClaim := { program := "ytnmocdfogdcliaa", sum := "e86ed46f590b1a7ff8b98828e7e695884fc2036a01989e4ef0ca98b981cc2f45", func := "acequia/acequialaw39.PlanFirm", spec := "planFirm", unfollowed := true, recurses := true, apart := false }
def PlanFirmSaid : Prop := planFirmRow.holds Try.pinned (OpenSpec.ofChange planFirmSpec)

/-- ITS FALSE NEIGHBOUR: 'it returns false'. Refute it at one input. -/
def planFirmWrong : ChangeSpec := { name := "planFirm", fn := fun _ => fun
  | [d1, d2, d3, d4] => { results := [.lit (.bool false)], args := [d1, d2, d3, d4] }
  | _ => none }
def PlanFirmWrongFalsely : Prop := planFirmRow.holds Try.pinned (OpenSpec.ofChange planFirmWrong)

/- THE SECOND FORM. 'bulk': how many values and letters a reading holds, each counted each time it is reached (what is shared counts as often as it is met; a slice's spare places count too). A statement '..UptoSaid' is the law's where the arguments, and the package variables that the reading takes, are together of bulk at most 1048576: NARROWER than '..Said'. Prove '..Said' where nothing that the law and all that it calls make is longer than what came in: it says more and counts as full. Else prove '..UptoSaid'. A law counts once. -/
mutual
def uptoBulk {H : Type} : DataW H → Nat
  | .lit (.string bytes) => bytes.length + 1
  | .lit _ => 1
  | .nil => 1
  | .ptr d => uptoBulk d + 1
  | .slice elems spare => uptoBulkAll elems + uptoBulkAll spare + 1
  | .agg parts => uptoBulkAll parts + 1
  | .iface _ d => uptoBulk d + 1
  | .map entries => uptoBulkEntries entries + 1
  | .held _ => 1
def uptoBulkAll {H : Type} : List (DataW H) → Nat
  | [] => 0
  | d :: r => uptoBulk d + uptoBulkAll r
def uptoBulkEntries {H : Type} : List (Lit × DataW H) → Nat
  | [] => 0
  | x :: r => uptoBulkEntry x + uptoBulkEntries r
def uptoBulkEntry {H : Type} : Lit × DataW H → Nat
  | (.string bytes, d) => bytes.length + uptoBulk d + 1
  | (_, d) => uptoBulk d + 1
 end
def uptoSmall : (H : Type) → List (DataW H) → Bool := fun _ ds => decide (uptoBulkAll ds ≤ 1048576)
def OpenSpec.upto (s : _root_.Go.ChangeSpec) : _root_.Go.OpenSpec := { _root_.Go.OpenSpec.ofChange s with cond := some uptoSmall }

/-- 'acequialaw39.PlanSpec', WHERE WHAT IT READS IS OF BULK AT MOST 1048576: true; the input reads as it did. -/
def planSpecUptoRow : OpenClaim := { program := "ytnmocdfogdcliaa", sum := "e86ed46f590b1a7ff8b98828e7e695884fc2036a01989e4ef0ca98b981cc2f45", func := "acequia/acequialaw39.PlanSpec", spec := "planSpec", unfollowed := true, recurses := true, apart := false, narrowed := true }
def PlanSpecUptoSaid : Prop := planSpecUptoRow.holds Try.pinned (OpenSpec.upto planSpecSpec)

/-- 'acequialaw39.PlanStepSpec', WHERE WHAT IT READS IS OF BULK AT MOST 1048576: true; the input reads as it did. -/
def planStepSpecUptoRow : OpenClaim := { program := "ytnmocdfogdcliaa", sum := "e86ed46f590b1a7ff8b98828e7e695884fc2036a01989e4ef0ca98b981cc2f45", func := "acequia/acequialaw39.PlanStepSpec", spec := "planStepSpec", unfollowed := true, recurses := true, apart := false, narrowed := true }
def PlanStepSpecUptoSaid : Prop := planStepSpecUptoRow.holds Try.pinned (OpenSpec.upto planStepSpecSpec)

/-- 'acequialaw39.PlanFirmSpec', WHERE WHAT IT READS IS OF BULK AT MOST 1048576: true; the input reads as it did. -/
def planFirmSpecUptoRow : OpenClaim := { program := "ytnmocdfogdcliaa", sum := "e86ed46f590b1a7ff8b98828e7e695884fc2036a01989e4ef0ca98b981cc2f45", func := "acequia/acequialaw39.PlanFirmSpec", spec := "planFirmSpec", unfollowed := true, recurses := true, apart := false, narrowed := true }
def PlanFirmSpecUptoSaid : Prop := planFirmSpecUptoRow.holds Try.pinned (OpenSpec.upto planFirmSpecSpec)

/-- 'acequialaw39.PlanEither', WHERE WHAT IT READS IS OF BULK AT MOST 1048576: true; the input reads as it did. -/
def planEitherUptoRow : OpenClaim := { program := "ytnmocdfogdcliaa", sum := "e86ed46f590b1a7ff8b98828e7e695884fc2036a01989e4ef0ca98b981cc2f45", func := "acequia/acequialaw39.PlanEither", spec := "planEither", unfollowed := true, recurses := true, apart := false, narrowed := true }
def PlanEitherUptoSaid : Prop := planEitherUptoRow.holds Try.pinned (OpenSpec.upto planEitherSpec)

/-- 'acequialaw39.PlanGame', WHERE WHAT IT READS IS OF BULK AT MOST 1048576: true; the input reads as it did. -/
def planGameUptoRow : OpenClaim := { program := "ytnmocdfogdcliaa", sum := "e86ed46f590b1a7ff8b98828e7e695884fc2036a01989e4ef0ca98b981cc2f45", func := "acequia/acequialaw39.PlanGame", spec := "planGame", unfollowed := true, recurses := true, apart := false, narrowed := true }
def PlanGameUptoSaid : Prop := planGameUptoRow.holds Try.pinned (OpenSpec.upto planGameSpec)

/-- 'acequialaw39.PlanPast', WHERE WHAT IT READS IS OF BULK AT MOST 1048576: true; the input reads as it did. -/
def planPastUptoRow : OpenClaim := { program := "ytnmocdfogdcliaa", sum := "e86ed46f590b1a7ff8b98828e7e695884fc2036a01989e4ef0ca98b981cc2f45", func := "acequia/acequialaw39.PlanPast", spec := "planPast", unfollowed := true, recurses := true, apart := false, narrowed := true }
def PlanPastUptoSaid : Prop := planPastUptoRow.holds Try.pinned (OpenSpec.upto planPastSpec)

/-- 'acequialaw39.PlanWider', WHERE WHAT IT READS IS OF BULK AT MOST 1048576: true; the input reads as it did. -/
def planWiderUptoRow : OpenClaim := { program := "ytnmocdfogdcliaa", sum := "e86ed46f590b1a7ff8b98828e7e695884fc2036a01989e4ef0ca98b981cc2f45", func := "acequia/acequialaw39.PlanWider", spec := "planWider", unfollowed := true, recurses := true, apart := false, narrowed := true }
def PlanWiderUptoSaid : Prop := planWiderUptoRow.holds Try.pinned (OpenSpec.upto planWiderSpec)

/-- 'acequialaw39.PlanFirm', WHERE WHAT IT READS IS OF BULK AT MOST 1048576: true; the input reads as it did. -/
def planFirmUptoRow : OpenClaim := { program := "ytnmocdfogdcliaa", sum := "e86ed46f590b1a7ff8b98828e7e695884fc2036a01989e4ef0ca98b981cc2f45", func := "acequia/acequialaw39.PlanFirm", spec := "planFirm", unfollowed := true, recurses := true, apart := false, narrowed := true }
def PlanFirmUptoSaid : Prop := planFirmUptoRow.holds Try.pinned (OpenSpec.upto planFirmSpec)

end Rows
end Go.Proofs.Ytnmocdfogdcliaa
