/-
  No cell of these rows narrows 'for every input' (looked for: loops, veiled, ifaces, maps, wideKeys, modest, calm, conditions, laid).
  DERIVED. THE GIVEN ROWS OF THIS SEAT. 7 by the template 'for every input the law returns true; each argument reads behind the call as it read before'; 0 by the template 'total and deterministic' (their statements: YtfddlodfmmnanaaTotals.lean).
  GIVEN WITH THE SEED: the statements are not yours to turn. If you find one false, say at which input.
  Laid BY PROGRAM, IN A SANDBOX (cutbox-rows.mjs): the forced cells as the released guide's own fill.sh prints them over the translation 5ded90ccc294b6b1… (all of the seat's roots in one cut). By AI agents, Wed Nov 11 2026. No macro, syntax, notation, axiom, sorry.
-/
import Derived.Test.YtfddlodfmmnanaaChecked
import GoSem.Claim
import GoSem.ClaimJoined
import GoSem.ClaimMapViews
import Derived.JoinedTies
import Derived.KernelRfl
namespace Go.Proofs.Ytfddlodfmmnanaa
/- THE CELL 'sum', in the pinned program and in every row, IS THE sha256 OF THE DUMP (.gsa) THAT YtfddlodfmmnanaaProg.lean LOADS. Nothing in Lean hashes anything: it is a label: what it is worth is what the hold of that sum in a sandbox is worth. -/
noncomputable def Try.pinned : Pinned := { name := "ytfddlodfmmnanaa", sum := "5ded90ccc294b6b1f96243edabb4cfe41fdd70e493f3a6ead6aa5d2ce668ec17", checked := Try.checked }
namespace Rows
def none {H : Type} : Left H := { results := [], args := [] }

/-- 'acequialaw24.GaugeSpec': WHATEVER THE INPUT: true; the input reads as it did. -/
def gaugeSpecSpec : ChangeSpec := { name := "gaugeSpec", fn := fun _ => fun
  | [d1, d2] => { results := [.lit (.bool true)], args := [d1, d2] }
  | _ => none }
def gaugeSpecRow : OpenClaim := { program := "ytfddlodfmmnanaa", sum := "5ded90ccc294b6b1f96243edabb4cfe41fdd70e493f3a6ead6aa5d2ce668ec17", func := "acequia/acequialaw24.GaugeSpec", spec := "gaugeSpec", unfollowed := true, recurses := true, apart := false }
def GaugeSpecSaid : Prop := gaugeSpecRow.holds Try.pinned (OpenSpec.ofChange gaugeSpecSpec)

/-- ITS FALSE NEIGHBOUR: 'it returns false'. Refute it at one input. -/
def gaugeSpecWrong : ChangeSpec := { name := "gaugeSpec", fn := fun _ => fun
  | [d1, d2] => { results := [.lit (.bool false)], args := [d1, d2] }
  | _ => none }
def GaugeSpecWrongFalsely : Prop := gaugeSpecRow.holds Try.pinned (OpenSpec.ofChange gaugeSpecWrong)

/-- 'acequialaw24.GaugeReadSpec': WHATEVER THE INPUT: true; the input reads as it did. -/
def gaugeReadSpecSpec : ChangeSpec := { name := "gaugeReadSpec", fn := fun _ => fun
  | [d1, d2, d3, d4] => { results := [.lit (.bool true)], args := [d1, d2, d3, d4] }
  | _ => none }
def gaugeReadSpecRow : OpenClaim := { program := "ytfddlodfmmnanaa", sum := "5ded90ccc294b6b1f96243edabb4cfe41fdd70e493f3a6ead6aa5d2ce668ec17", func := "acequia/acequialaw24.GaugeReadSpec", spec := "gaugeReadSpec", unfollowed := true, recurses := true, apart := false }
def GaugeReadSpecSaid : Prop := gaugeReadSpecRow.holds Try.pinned (OpenSpec.ofChange gaugeReadSpecSpec)

/-- ITS FALSE NEIGHBOUR: 'it returns false'. Refute it at one input. -/
def gaugeReadSpecWrong : ChangeSpec := { name := "gaugeReadSpec", fn := fun _ => fun
  | [d1, d2, d3, d4] => { results := [.lit (.bool false)], args := [d1, d2, d3, d4] }
  | _ => none }
def GaugeReadSpecWrongFalsely : Prop := gaugeReadSpecRow.holds Try.pinned (OpenSpec.ofChange gaugeReadSpecWrong)

/-- 'acequialaw24.GaugeTruth': WHATEVER THE INPUT: true; the input reads as it did. -/
def gaugeTruthSpec : ChangeSpec := { name := "gaugeTruth", fn := fun _ => fun
  | [d1, d2, d3, d4] => { results := [.lit (.bool true)], args := [d1, d2, d3, d4] }
  | _ => none }
def gaugeTruthRow : OpenClaim := { program := "ytfddlodfmmnanaa", sum := "5ded90ccc294b6b1f96243edabb4cfe41fdd70e493f3a6ead6aa5d2ce668ec17", func := "acequia/acequialaw24.GaugeTruth", spec := "gaugeTruth", unfollowed := true, recurses := true, apart := false }
def GaugeTruthSaid : Prop := gaugeTruthRow.holds Try.pinned (OpenSpec.ofChange gaugeTruthSpec)

/-- ITS FALSE NEIGHBOUR: 'it returns false'. Refute it at one input. -/
def gaugeTruthWrong : ChangeSpec := { name := "gaugeTruth", fn := fun _ => fun
  | [d1, d2, d3, d4] => { results := [.lit (.bool false)], args := [d1, d2, d3, d4] }
  | _ => none }
def GaugeTruthWrongFalsely : Prop := gaugeTruthRow.holds Try.pinned (OpenSpec.ofChange gaugeTruthWrong)

/-- 'acequialaw24.GaugeInverse': WHATEVER THE INPUT: true; the input reads as it did. -/
def gaugeInverseSpec : ChangeSpec := { name := "gaugeInverse", fn := fun _ => fun
  | [d1, d2, d3] => { results := [.lit (.bool true)], args := [d1, d2, d3] }
  | _ => none }
def gaugeInverseRow : OpenClaim := { program := "ytfddlodfmmnanaa", sum := "5ded90ccc294b6b1f96243edabb4cfe41fdd70e493f3a6ead6aa5d2ce668ec17", func := "acequia/acequialaw24.GaugeInverse", spec := "gaugeInverse", unfollowed := true, recurses := true, apart := false }
def GaugeInverseSaid : Prop := gaugeInverseRow.holds Try.pinned (OpenSpec.ofChange gaugeInverseSpec)

/-- ITS FALSE NEIGHBOUR: 'it returns false'. Refute it at one input. -/
def gaugeInverseWrong : ChangeSpec := { name := "gaugeInverse", fn := fun _ => fun
  | [d1, d2, d3] => { results := [.lit (.bool false)], args := [d1, d2, d3] }
  | _ => none }
def GaugeInverseWrongFalsely : Prop := gaugeInverseRow.holds Try.pinned (OpenSpec.ofChange gaugeInverseWrong)

/-- 'acequialaw24.GaugeMonotone': WHATEVER THE INPUT: true; the input reads as it did. -/
def gaugeMonotoneSpec : ChangeSpec := { name := "gaugeMonotone", fn := fun _ => fun
  | [d1, d2, d3, d4] => { results := [.lit (.bool true)], args := [d1, d2, d3, d4] }
  | _ => none }
def gaugeMonotoneRow : OpenClaim := { program := "ytfddlodfmmnanaa", sum := "5ded90ccc294b6b1f96243edabb4cfe41fdd70e493f3a6ead6aa5d2ce668ec17", func := "acequia/acequialaw24.GaugeMonotone", spec := "gaugeMonotone", unfollowed := true, recurses := true, apart := false }
def GaugeMonotoneSaid : Prop := gaugeMonotoneRow.holds Try.pinned (OpenSpec.ofChange gaugeMonotoneSpec)

/-- ITS FALSE NEIGHBOUR: 'it returns false'. Refute it at one input. -/
def gaugeMonotoneWrong : ChangeSpec := { name := "gaugeMonotone", fn := fun _ => fun
  | [d1, d2, d3, d4] => { results := [.lit (.bool false)], args := [d1, d2, d3, d4] }
  | _ => none }
def GaugeMonotoneWrongFalsely : Prop := gaugeMonotoneRow.holds Try.pinned (OpenSpec.ofChange gaugeMonotoneWrong)

/-- 'acequialaw24.GaugeFurther': WHATEVER THE INPUT: true; the input reads as it did. -/
def gaugeFurtherSpec : ChangeSpec := { name := "gaugeFurther", fn := fun _ => fun
  | [d1, d2, d3] => { results := [.lit (.bool true)], args := [d1, d2, d3] }
  | _ => none }
def gaugeFurtherRow : OpenClaim := { program := "ytfddlodfmmnanaa", sum := "5ded90ccc294b6b1f96243edabb4cfe41fdd70e493f3a6ead6aa5d2ce668ec17", func := "acequia/acequialaw24.GaugeFurther", spec := "gaugeFurther", unfollowed := true, recurses := true, apart := false }
def GaugeFurtherSaid : Prop := gaugeFurtherRow.holds Try.pinned (OpenSpec.ofChange gaugeFurtherSpec)

/-- ITS FALSE NEIGHBOUR: 'it returns false'. Refute it at one input. -/
def gaugeFurtherWrong : ChangeSpec := { name := "gaugeFurther", fn := fun _ => fun
  | [d1, d2, d3] => { results := [.lit (.bool false)], args := [d1, d2, d3] }
  | _ => none }
def GaugeFurtherWrongFalsely : Prop := gaugeFurtherRow.holds Try.pinned (OpenSpec.ofChange gaugeFurtherWrong)

/-- 'acequialaw24.GaugeLater': WHATEVER THE INPUT: true; the input reads as it did. -/
def gaugeLaterSpec : ChangeSpec := { name := "gaugeLater", fn := fun _ => fun
  | [d1, d2, d3, d4, d5, d6] => { results := [.lit (.bool true)], args := [d1, d2, d3, d4, d5, d6] }
  | _ => none }
def gaugeLaterRow : OpenClaim := { program := "ytfddlodfmmnanaa", sum := "5ded90ccc294b6b1f96243edabb4cfe41fdd70e493f3a6ead6aa5d2ce668ec17", func := "acequia/acequialaw24.GaugeLater", spec := "gaugeLater", unfollowed := true, recurses := true, apart := false }
def GaugeLaterSaid : Prop := gaugeLaterRow.holds Try.pinned (OpenSpec.ofChange gaugeLaterSpec)

/-- ITS FALSE NEIGHBOUR: 'it returns false'. Refute it at one input. -/
def gaugeLaterWrong : ChangeSpec := { name := "gaugeLater", fn := fun _ => fun
  | [d1, d2, d3, d4, d5, d6] => { results := [.lit (.bool false)], args := [d1, d2, d3, d4, d5, d6] }
  | _ => none }
def GaugeLaterWrongFalsely : Prop := gaugeLaterRow.holds Try.pinned (OpenSpec.ofChange gaugeLaterWrong)

/- THE SECOND FORM. 'bulk': how many values and letters a reading holds, each counted each time it is reached (what is shared counts as often as it is met; a slice's spare places count too). A statement '..UptoSaid' is the law's where the arguments, and the package variables that the reading takes, are together of bulk at most 1048576: NARROWER than '..Said'. Prove '..Said' where nothing that the law and all that it calls make is longer than what came in: it says more and counts as full. Else prove '..UptoSaid'. A law counts once. -/
mutual
def uptoBulk {H : Type} : DataW H → Nat
  | .lit (.string bytes) => bytes.length + 1
  | .lit _ => 1
  | .nil => 1
  | .ptr d => uptoBulk d + 1
  | .slice elems spare => uptoBulkAll elems + uptoBulkAll spare + 1
  | .agg parts => uptoBulkAll parts + 1
  | .iface _ d => uptoBulk d + 1
  | .map entries => uptoBulkEntries entries + 1
  | .held _ => 1
def uptoBulkAll {H : Type} : List (DataW H) → Nat
  | [] => 0
  | d :: r => uptoBulk d + uptoBulkAll r
def uptoBulkEntries {H : Type} : List (Lit × DataW H) → Nat
  | [] => 0
  | x :: r => uptoBulkEntry x + uptoBulkEntries r
def uptoBulkEntry {H : Type} : Lit × DataW H → Nat
  | (.string bytes, d) => bytes.length + uptoBulk d + 1
  | (_, d) => uptoBulk d + 1
 end
def uptoSmall : (H : Type) → List (DataW H) → Bool := fun _ ds => decide (uptoBulkAll ds ≤ 1048576)
def OpenSpec.upto (s : _root_.Go.ChangeSpec) : _root_.Go.OpenSpec := { _root_.Go.OpenSpec.ofChange s with cond := some uptoSmall }

/-- 'acequialaw24.GaugeSpec', WHERE WHAT IT READS IS OF BULK AT MOST 1048576: true; the input reads as it did. -/
def gaugeSpecUptoRow : OpenClaim := { program := "ytfddlodfmmnanaa", sum := "5ded90ccc294b6b1f96243edabb4cfe41fdd70e493f3a6ead6aa5d2ce668ec17", func := "acequia/acequialaw24.GaugeSpec", spec := "gaugeSpec", unfollowed := true, recurses := true, apart := false, narrowed := true }
def GaugeSpecUptoSaid : Prop := gaugeSpecUptoRow.holds Try.pinned (OpenSpec.upto gaugeSpecSpec)

/-- 'acequialaw24.GaugeReadSpec', WHERE WHAT IT READS IS OF BULK AT MOST 1048576: true; the input reads as it did. -/
def gaugeReadSpecUptoRow : OpenClaim := { program := "ytfddlodfmmnanaa", sum := "5ded90ccc294b6b1f96243edabb4cfe41fdd70e493f3a6ead6aa5d2ce668ec17", func := "acequia/acequialaw24.GaugeReadSpec", spec := "gaugeReadSpec", unfollowed := true, recurses := true, apart := false, narrowed := true }
def GaugeReadSpecUptoSaid : Prop := gaugeReadSpecUptoRow.holds Try.pinned (OpenSpec.upto gaugeReadSpecSpec)

/-- 'acequialaw24.GaugeTruth', WHERE WHAT IT READS IS OF BULK AT MOST 1048576: true; the input reads as it did. -/
def gaugeTruthUptoRow : OpenClaim := { program := "ytfddlodfmmnanaa", sum := "5ded90ccc294b6b1f96243edabb4cfe41fdd70e493f3a6ead6aa5d2ce668ec17", func := "acequia/acequialaw24.GaugeTruth", spec := "gaugeTruth", unfollowed := true, recurses := true, apart := false, narrowed := true }
def GaugeTruthUptoSaid : Prop := gaugeTruthUptoRow.holds Try.pinned (OpenSpec.upto gaugeTruthSpec)

/-- 'acequialaw24.GaugeInverse', WHERE WHAT IT READS IS OF BULK AT MOST 1048576: true; the input reads as it did. -/
def gaugeInverseUptoRow : OpenClaim := { program := "ytfddlodfmmnanaa", sum := "5ded90ccc294b6b1f96243edabb4cfe41fdd70e493f3a6ead6aa5d2ce668ec17", func := "acequia/acequialaw24.GaugeInverse", spec := "gaugeInverse", unfollowed := true, recurses := true, apart := false, narrowed := true }
def GaugeInverseUptoSaid : Prop := gaugeInverseUptoRow.holds Try.pinned (OpenSpec.upto gaugeInverseSpec)

/-- 'acequialaw24.GaugeMonotone', WHERE WHAT IT READS IS OF BULK AT MOST 1048576: true; the input reads as it did. -/
def gaugeMonotoneUptoRow : OpenClaim := { program := "ytfddlodfmmnanaa", sum := "5ded90ccc294b6b1f96243edabb4cfe41fdd70e493f3a6ead6aa5d2ce668ec17", func := "acequia/acequialaw24.GaugeMonotone", spec := "gaugeMonotone", unfollowed := true, recurses := true, apart := false, narrowed := true }
def GaugeMonotoneUptoSaid : Prop := gaugeMonotoneUptoRow.holds Try.pinned (OpenSpec.upto gaugeMonotoneSpec)

/-- 'acequialaw24.GaugeFurther', WHERE WHAT IT READS IS OF BULK AT MOST 1048576: true; the input reads as it did. -/
def gaugeFurtherUptoRow : OpenClaim := { program := "ytfddlodfmmnanaa", sum := "5ded90ccc294b6b1f96243edabb4cfe41fdd70e493f3a6ead6aa5d2ce668ec17", func := "acequia/acequialaw24.GaugeFurther", spec := "gaugeFurther", unfollowed := true, recurses := true, apart := false, narrowed := true }
def GaugeFurtherUptoSaid : Prop := gaugeFurtherUptoRow.holds Try.pinned (OpenSpec.upto gaugeFurtherSpec)

/-- 'acequialaw24.GaugeLater', WHERE WHAT IT READS IS OF BULK AT MOST 1048576: true; the input reads as it did. -/
def gaugeLaterUptoRow : OpenClaim := { program := "ytfddlodfmmnanaa", sum := "5ded90ccc294b6b1f96243edabb4cfe41fdd70e493f3a6ead6aa5d2ce668ec17", func := "acequia/acequialaw24.GaugeLater", spec := "gaugeLater", unfollowed := true, recurses := true, apart := false, narrowed := true }
def GaugeLaterUptoSaid : Prop := gaugeLaterUptoRow.holds Try.pinned (OpenSpec.upto gaugeLaterSpec)

end Rows
end Go.Proofs.Ytfddlodfmmnanaa
