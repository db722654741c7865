/-
  No cell of these rows narrows 'for every input' (looked for: loops, veiled, ifaces, maps, wideKeys, modest, calm, conditions, laid).
  DERIVED. THE GIVEN ROWS OF THIS SEAT. 6 by the template 'for every input the law returns true; each argument reads behind the call as it read before'; 0 by the template 'total and deterministic' (their statements: YtbojjhdcmogjdaaTotals.lean).
  GIVEN WITH THE SEED: the statements are not yours to turn. If you find one false, say at which input.
  Laid BY PROGRAM, IN A SANDBOX (cutbox-rows.mjs): the forced cells as the released guide's own fill.sh prints them over the translation 465e0b13723b4b8c… (all of the seat's roots in one cut). By AI agents, Wed Nov 11 2026. No macro, syntax, notation, axiom, sorry.
-/
import Derived.Test.YtbojjhdcmogjdaaChecked
import GoSem.Claim
import GoSem.ClaimJoined
import GoSem.ClaimMapViews
import Derived.JoinedTies
import Derived.KernelRfl
namespace Go.Proofs.Ytbojjhdcmogjdaa
/- THE CELL 'sum', in the pinned program and in every row, IS THE sha256 OF THE DUMP (.gsa) THAT YtbojjhdcmogjdaaProg.lean LOADS. Nothing in Lean hashes anything: it is a label: what it is worth is what the hold of that sum in a sandbox is worth. -/
noncomputable def Try.pinned : Pinned := { name := "ytbojjhdcmogjdaa", sum := "465e0b13723b4b8caf7a9da202a5f847fece2b170fb963ef318b470b47bc39d1", checked := Try.checked }
namespace Rows
def none {H : Type} : Left H := { results := [], args := [] }

/-- 'acequialaw52.PrecedentsSpec': WHATEVER THE INPUT: true; the input reads as it did. -/
def precedentsSpecSpec : ChangeSpec := { name := "precedentsSpec", fn := fun _ => fun
  | [d] => { results := [.lit (.bool true)], args := [d] }
  | _ => none }
def precedentsSpecRow : OpenClaim := { program := "ytbojjhdcmogjdaa", sum := "465e0b13723b4b8caf7a9da202a5f847fece2b170fb963ef318b470b47bc39d1", func := "acequia/acequialaw52.PrecedentsSpec", spec := "precedentsSpec", unfollowed := true, recurses := true, apart := false }
def PrecedentsSpecSaid : Prop := precedentsSpecRow.holds Try.pinned (OpenSpec.ofChange precedentsSpecSpec)

/-- ITS FALSE NEIGHBOUR: 'it returns false'. Refute it at one input. -/
def precedentsSpecWrong : ChangeSpec := { name := "precedentsSpec", fn := fun _ => fun
  | [d] => { results := [.lit (.bool false)], args := [d] }
  | _ => none }
def PrecedentsSpecWrongFalsely : Prop := precedentsSpecRow.holds Try.pinned (OpenSpec.ofChange precedentsSpecWrong)

/-- 'acequialaw52.PrecedentsBindsSpec': WHATEVER THE INPUT: true; the input reads as it did. -/
def precedentsBindsSpecSpec : ChangeSpec := { name := "precedentsBindsSpec", fn := fun _ => fun
  | [d1, d2, d3, d4, d5] => { results := [.lit (.bool true)], args := [d1, d2, d3, d4, d5] }
  | _ => none }
def precedentsBindsSpecRow : OpenClaim := { program := "ytbojjhdcmogjdaa", sum := "465e0b13723b4b8caf7a9da202a5f847fece2b170fb963ef318b470b47bc39d1", func := "acequia/acequialaw52.PrecedentsBindsSpec", spec := "precedentsBindsSpec", unfollowed := true, recurses := true, apart := false }
def PrecedentsBindsSpecSaid : Prop := precedentsBindsSpecRow.holds Try.pinned (OpenSpec.ofChange precedentsBindsSpecSpec)

/-- ITS FALSE NEIGHBOUR: 'it returns false'. Refute it at one input. -/
def precedentsBindsSpecWrong : ChangeSpec := { name := "precedentsBindsSpec", fn := fun _ => fun
  | [d1, d2, d3, d4, d5] => { results := [.lit (.bool false)], args := [d1, d2, d3, d4, d5] }
  | _ => none }
def PrecedentsBindsSpecWrongFalsely : Prop := precedentsBindsSpecRow.holds Try.pinned (OpenSpec.ofChange precedentsBindsSpecWrong)

/-- 'acequialaw52.PrecedentsFortiori': WHATEVER THE INPUT: true; the input reads as it did. -/
def precedentsFortioriSpec : ChangeSpec := { name := "precedentsFortiori", fn := fun _ => fun
  | [d1, d2, d3, d4] => { results := [.lit (.bool true)], args := [d1, d2, d3, d4] }
  | _ => none }
def precedentsFortioriRow : OpenClaim := { program := "ytbojjhdcmogjdaa", sum := "465e0b13723b4b8caf7a9da202a5f847fece2b170fb963ef318b470b47bc39d1", func := "acequia/acequialaw52.PrecedentsFortiori", spec := "precedentsFortiori", unfollowed := true, recurses := true, apart := false }
def PrecedentsFortioriSaid : Prop := precedentsFortioriRow.holds Try.pinned (OpenSpec.ofChange precedentsFortioriSpec)

/-- ITS FALSE NEIGHBOUR: 'it returns false'. Refute it at one input. -/
def precedentsFortioriWrong : ChangeSpec := { name := "precedentsFortiori", fn := fun _ => fun
  | [d1, d2, d3, d4] => { results := [.lit (.bool false)], args := [d1, d2, d3, d4] }
  | _ => none }
def PrecedentsFortioriWrongFalsely : Prop := precedentsFortioriRow.holds Try.pinned (OpenSpec.ofChange precedentsFortioriWrong)

/-- 'acequialaw52.PrecedentsCourt': WHATEVER THE INPUT: true; the input reads as it did. -/
def precedentsCourtSpec : ChangeSpec := { name := "precedentsCourt", fn := fun _ => fun
  | [d1, d2, d3, d4] => { results := [.lit (.bool true)], args := [d1, d2, d3, d4] }
  | _ => none }
def precedentsCourtRow : OpenClaim := { program := "ytbojjhdcmogjdaa", sum := "465e0b13723b4b8caf7a9da202a5f847fece2b170fb963ef318b470b47bc39d1", func := "acequia/acequialaw52.PrecedentsCourt", spec := "precedentsCourt", unfollowed := true, recurses := true, apart := false }
def PrecedentsCourtSaid : Prop := precedentsCourtRow.holds Try.pinned (OpenSpec.ofChange precedentsCourtSpec)

/-- ITS FALSE NEIGHBOUR: 'it returns false'. Refute it at one input. -/
def precedentsCourtWrong : ChangeSpec := { name := "precedentsCourt", fn := fun _ => fun
  | [d1, d2, d3, d4] => { results := [.lit (.bool false)], args := [d1, d2, d3, d4] }
  | _ => none }
def PrecedentsCourtWrongFalsely : Prop := precedentsCourtRow.holds Try.pinned (OpenSpec.ofChange precedentsCourtWrong)

/-- 'acequialaw52.PrecedentsGovern': WHATEVER THE INPUT: true; the input reads as it did. -/
def precedentsGovernSpec : ChangeSpec := { name := "precedentsGovern", fn := fun _ => fun
  | [d1, d2, d3] => { results := [.lit (.bool true)], args := [d1, d2, d3] }
  | _ => none }
def precedentsGovernRow : OpenClaim := { program := "ytbojjhdcmogjdaa", sum := "465e0b13723b4b8caf7a9da202a5f847fece2b170fb963ef318b470b47bc39d1", func := "acequia/acequialaw52.PrecedentsGovern", spec := "precedentsGovern", unfollowed := true, recurses := true, apart := false }
def PrecedentsGovernSaid : Prop := precedentsGovernRow.holds Try.pinned (OpenSpec.ofChange precedentsGovernSpec)

/-- ITS FALSE NEIGHBOUR: 'it returns false'. Refute it at one input. -/
def precedentsGovernWrong : ChangeSpec := { name := "precedentsGovern", fn := fun _ => fun
  | [d1, d2, d3] => { results := [.lit (.bool false)], args := [d1, d2, d3] }
  | _ => none }
def PrecedentsGovernWrongFalsely : Prop := precedentsGovernRow.holds Try.pinned (OpenSpec.ofChange precedentsGovernWrong)

/-- 'acequialaw52.PrecedentsFurther': WHATEVER THE INPUT: true; the input reads as it did. -/
def precedentsFurtherSpec : ChangeSpec := { name := "precedentsFurther", fn := fun _ => fun
  | [d1, d2, d3, d4] => { results := [.lit (.bool true)], args := [d1, d2, d3, d4] }
  | _ => none }
def precedentsFurtherRow : OpenClaim := { program := "ytbojjhdcmogjdaa", sum := "465e0b13723b4b8caf7a9da202a5f847fece2b170fb963ef318b470b47bc39d1", func := "acequia/acequialaw52.PrecedentsFurther", spec := "precedentsFurther", unfollowed := true, recurses := true, apart := false }
def PrecedentsFurtherSaid : Prop := precedentsFurtherRow.holds Try.pinned (OpenSpec.ofChange precedentsFurtherSpec)

/-- ITS FALSE NEIGHBOUR: 'it returns false'. Refute it at one input. -/
def precedentsFurtherWrong : ChangeSpec := { name := "precedentsFurther", fn := fun _ => fun
  | [d1, d2, d3, d4] => { results := [.lit (.bool false)], args := [d1, d2, d3, d4] }
  | _ => none }
def PrecedentsFurtherWrongFalsely : Prop := precedentsFurtherRow.holds Try.pinned (OpenSpec.ofChange precedentsFurtherWrong)

/- THE SECOND FORM. 'bulk': how many values and letters a reading holds, each counted each time it is reached (what is shared counts as often as it is met; a slice's spare places count too). A statement '..UptoSaid' is the law's where the arguments, and the package variables that the reading takes, are together of bulk at most 1048576: NARROWER than '..Said'. Prove '..Said' where nothing that the law and all that it calls make is longer than what came in: it says more and counts as full. Else prove '..UptoSaid'. A law counts once. -/
mutual
def uptoBulk {H : Type} : DataW H → Nat
  | .lit (.string bytes) => bytes.length + 1
  | .lit _ => 1
  | .nil => 1
  | .ptr d => uptoBulk d + 1
  | .slice elems spare => uptoBulkAll elems + uptoBulkAll spare + 1
  | .agg parts => uptoBulkAll parts + 1
  | .iface _ d => uptoBulk d + 1
  | .map entries => uptoBulkEntries entries + 1
  | .held _ => 1
def uptoBulkAll {H : Type} : List (DataW H) → Nat
  | [] => 0
  | d :: r => uptoBulk d + uptoBulkAll r
def uptoBulkEntries {H : Type} : List (Lit × DataW H) → Nat
  | [] => 0
  | x :: r => uptoBulkEntry x + uptoBulkEntries r
def uptoBulkEntry {H : Type} : Lit × DataW H → Nat
  | (.string bytes, d) => bytes.length + uptoBulk d + 1
  | (_, d) => uptoBulk d + 1
 end
def uptoSmall : (H : Type) → List (DataW H) → Bool := fun _ ds => decide (uptoBulkAll ds ≤ 1048576)
def OpenSpec.upto (s : _root_.Go.ChangeSpec) : _root_.Go.OpenSpec := { _root_.Go.OpenSpec.ofChange s with cond := some uptoSmall }

/-- 'acequialaw52.PrecedentsSpec', WHERE WHAT IT READS IS OF BULK AT MOST 1048576: true; the input reads as it did. -/
def precedentsSpecUptoRow : OpenClaim := { program := "ytbojjhdcmogjdaa", sum := "465e0b13723b4b8caf7a9da202a5f847fece2b170fb963ef318b470b47bc39d1", func := "acequia/acequialaw52.PrecedentsSpec", spec := "precedentsSpec", unfollowed := true, recurses := true, apart := false, narrowed := true }
def PrecedentsSpecUptoSaid : Prop := precedentsSpecUptoRow.holds Try.pinned (OpenSpec.upto precedentsSpecSpec)

/-- 'acequialaw52.PrecedentsBindsSpec', WHERE WHAT IT READS IS OF BULK AT MOST 1048576: true; the input reads as it did. -/
def precedentsBindsSpecUptoRow : OpenClaim := { program := "ytbojjhdcmogjdaa", sum := "465e0b13723b4b8caf7a9da202a5f847fece2b170fb963ef318b470b47bc39d1", func := "acequia/acequialaw52.PrecedentsBindsSpec", spec := "precedentsBindsSpec", unfollowed := true, recurses := true, apart := false, narrowed := true }
def PrecedentsBindsSpecUptoSaid : Prop := precedentsBindsSpecUptoRow.holds Try.pinned (OpenSpec.upto precedentsBindsSpecSpec)

/-- 'acequialaw52.PrecedentsFortiori', WHERE WHAT IT READS IS OF BULK AT MOST 1048576: true; the input reads as it did. -/
def precedentsFortioriUptoRow : OpenClaim := { program := "ytbojjhdcmogjdaa", sum := "465e0b13723b4b8caf7a9da202a5f847fece2b170fb963ef318b470b47bc39d1", func := "acequia/acequialaw52.PrecedentsFortiori", spec := "precedentsFortiori", unfollowed := true, recurses := true, apart := false, narrowed := true }
def PrecedentsFortioriUptoSaid : Prop := precedentsFortioriUptoRow.holds Try.pinned (OpenSpec.upto precedentsFortioriSpec)

/-- 'acequialaw52.PrecedentsCourt', WHERE WHAT IT READS IS OF BULK AT MOST 1048576: true; the input reads as it did. -/
def precedentsCourtUptoRow : OpenClaim := { program := "ytbojjhdcmogjdaa", sum := "465e0b13723b4b8caf7a9da202a5f847fece2b170fb963ef318b470b47bc39d1", func := "acequia/acequialaw52.PrecedentsCourt", spec := "precedentsCourt", unfollowed := true, recurses := true, apart := false, narrowed := true }
def PrecedentsCourtUptoSaid : Prop := precedentsCourtUptoRow.holds Try.pinned (OpenSpec.upto precedentsCourtSpec)

/-- 'acequialaw52.PrecedentsGovern', WHERE WHAT IT READS IS OF BULK AT MOST 1048576: true; the input reads as it did. -/
def precedentsGovernUptoRow : OpenClaim := { program := "ytbojjhdcmogjdaa", sum := "465e0b13723b4b8caf7a9da202a5f847fece2b170fb963ef318b470b47bc39d1", func := "acequia/acequialaw52.PrecedentsGovern", spec := "precedentsGovern", unfollowed := true, recurses := true, apart := false, narrowed := true }
def PrecedentsGovernUptoSaid : Prop := precedentsGovernUptoRow.holds Try.pinned (OpenSpec.upto precedentsGovernSpec)

/-- 'acequialaw52.PrecedentsFurther', WHERE WHAT IT READS IS OF BULK AT MOST 1048576: true; the input reads as it did. -/
def precedentsFurtherUptoRow : OpenClaim := { program := "ytbojjhdcmogjdaa", sum := "465e0b13723b4b8caf7a9da202a5f847fece2b170fb963ef318b470b47bc39d1", func := "acequia/acequialaw52.PrecedentsFurther", spec := "precedentsFurther", unfollowed := true, recurses := true, apart := false, narrowed := true }
def PrecedentsFurtherUptoSaid : Prop := precedentsFurtherUptoRow.holds Try.pinned (OpenSpec.upto precedentsFurtherSpec)

end Rows
end Go.Proofs.Ytbojjhdcmogjdaa
