/-
  No cell of these rows narrows 'for every input' (looked for: loops, veiled, ifaces, maps, wideKeys, modest, calm, conditions, laid).
  DERIVED. THE GIVEN ROWS OF THIS SEAT. 8 by the template 'for every input the law returns true; each argument reads behind the call as it read before'; 0 by the template 'total and deterministic' (their statements: YthmebjbaigiehaaTotals.lean).
  GIVEN WITH THE SEED: the statements are not yours to turn. If you find one false, say at which input.
  Laid BY PROGRAM, IN A SANDBOX (cutbox-rows.mjs): the forced cells as the released guide's own fill.sh prints them over the translation 31eff8da8d2b21c6… (all of the seat's roots in one cut). By AI agents, Wed Nov 11 2026. No macro, syntax, notation, axiom, sorry.
-/
import Derived.Test.YthmebjbaigiehaaChecked
import GoSem.Claim
import GoSem.ClaimJoined
import GoSem.ClaimMapViews
import Derived.JoinedTies
import Derived.KernelRfl
namespace Go.Proofs.Ythmebjbaigiehaa
/- THE CELL 'sum', in the pinned program and in every row, IS THE sha256 OF THE DUMP (.gsa) THAT YthmebjbaigiehaaProg.lean LOADS. Nothing in Lean hashes anything: it is a label: what it is worth is what the hold of that sum in a sandbox is worth. -/
noncomputable def Try.pinned : Pinned := { name := "ythmebjbaigiehaa", sum := "31eff8da8d2b21c6f853ad988c96028adac67b54cd6867332994a12d8850ad94", checked := Try.checked }
namespace Rows
def none {H : Type} : Left H := { results := [], args := [] }

/-- 'acequialaw43.SaltSpec': WHATEVER THE INPUT: true; the input reads as it did. -/
def saltSpecSpec : ChangeSpec := { name := "saltSpec", fn := fun _ => fun
  | [d1, d2, d3, d4] => { results := [.lit (.bool true)], args := [d1, d2, d3, d4] }
  | _ => none }
def saltSpecRow : OpenClaim := { program := "ythmebjbaigiehaa", sum := "31eff8da8d2b21c6f853ad988c96028adac67b54cd6867332994a12d8850ad94", func := "acequia/acequialaw43.SaltSpec", spec := "saltSpec", unfollowed := true, recurses := true, apart := false }
def SaltSpecSaid : Prop := saltSpecRow.holds Try.pinned (OpenSpec.ofChange saltSpecSpec)

/-- ITS FALSE NEIGHBOUR: 'it returns false'. Refute it at one input. -/
def saltSpecWrong : ChangeSpec := { name := "saltSpec", fn := fun _ => fun
  | [d1, d2, d3, d4] => { results := [.lit (.bool false)], args := [d1, d2, d3, d4] }
  | _ => none }
def SaltSpecWrongFalsely : Prop := saltSpecRow.holds Try.pinned (OpenSpec.ofChange saltSpecWrong)

/-- 'acequialaw43.SaltSplitSpec': WHATEVER THE INPUT: true; the input reads as it did. -/
def saltSplitSpecSpec : ChangeSpec := { name := "saltSplitSpec", fn := fun _ => fun
  | [d1, d2] => { results := [.lit (.bool true)], args := [d1, d2] }
  | _ => none }
def saltSplitSpecRow : OpenClaim := { program := "ythmebjbaigiehaa", sum := "31eff8da8d2b21c6f853ad988c96028adac67b54cd6867332994a12d8850ad94", func := "acequia/acequialaw43.SaltSplitSpec", spec := "saltSplitSpec", unfollowed := true, recurses := true, apart := false }
def SaltSplitSpecSaid : Prop := saltSplitSpecRow.holds Try.pinned (OpenSpec.ofChange saltSplitSpecSpec)

/-- ITS FALSE NEIGHBOUR: 'it returns false'. Refute it at one input. -/
def saltSplitSpecWrong : ChangeSpec := { name := "saltSplitSpec", fn := fun _ => fun
  | [d1, d2] => { results := [.lit (.bool false)], args := [d1, d2] }
  | _ => none }
def SaltSplitSpecWrongFalsely : Prop := saltSplitSpecRow.holds Try.pinned (OpenSpec.ofChange saltSplitSpecWrong)

/-- 'acequialaw43.SaltLeachSpec': WHATEVER THE INPUT: true; the input reads as it did. -/
def saltLeachSpecSpec : ChangeSpec := { name := "saltLeachSpec", fn := fun _ => fun
  | [d1, d2, d3, d4] => { results := [.lit (.bool true)], args := [d1, d2, d3, d4] }
  | _ => none }
def saltLeachSpecRow : OpenClaim := { program := "ythmebjbaigiehaa", sum := "31eff8da8d2b21c6f853ad988c96028adac67b54cd6867332994a12d8850ad94", func := "acequia/acequialaw43.SaltLeachSpec", spec := "saltLeachSpec", unfollowed := true, recurses := true, apart := false }
def SaltLeachSpecSaid : Prop := saltLeachSpecRow.holds Try.pinned (OpenSpec.ofChange saltLeachSpecSpec)

/-- ITS FALSE NEIGHBOUR: 'it returns false'. Refute it at one input. -/
def saltLeachSpecWrong : ChangeSpec := { name := "saltLeachSpec", fn := fun _ => fun
  | [d1, d2, d3, d4] => { results := [.lit (.bool false)], args := [d1, d2, d3, d4] }
  | _ => none }
def SaltLeachSpecWrongFalsely : Prop := saltLeachSpecRow.holds Try.pinned (OpenSpec.ofChange saltLeachSpecWrong)

/-- 'acequialaw43.SaltConserved': WHATEVER THE INPUT: true; the input reads as it did. -/
def saltConservedSpec : ChangeSpec := { name := "saltConserved", fn := fun _ => fun
  | [d1, d2, d3, d4, d5] => { results := [.lit (.bool true)], args := [d1, d2, d3, d4, d5] }
  | _ => none }
def saltConservedRow : OpenClaim := { program := "ythmebjbaigiehaa", sum := "31eff8da8d2b21c6f853ad988c96028adac67b54cd6867332994a12d8850ad94", func := "acequia/acequialaw43.SaltConserved", spec := "saltConserved", unfollowed := true, recurses := true, apart := false }
def SaltConservedSaid : Prop := saltConservedRow.holds Try.pinned (OpenSpec.ofChange saltConservedSpec)

/-- ITS FALSE NEIGHBOUR: 'it returns false'. Refute it at one input. -/
def saltConservedWrong : ChangeSpec := { name := "saltConserved", fn := fun _ => fun
  | [d1, d2, d3, d4, d5] => { results := [.lit (.bool false)], args := [d1, d2, d3, d4, d5] }
  | _ => none }
def SaltConservedWrongFalsely : Prop := saltConservedRow.holds Try.pinned (OpenSpec.ofChange saltConservedWrong)

/-- 'acequialaw43.SaltShares': WHATEVER THE INPUT: true; the input reads as it did. -/
def saltSharesSpec : ChangeSpec := { name := "saltShares", fn := fun _ => fun
  | [d1, d2, d3, d4, d5] => { results := [.lit (.bool true)], args := [d1, d2, d3, d4, d5] }
  | _ => none }
def saltSharesRow : OpenClaim := { program := "ythmebjbaigiehaa", sum := "31eff8da8d2b21c6f853ad988c96028adac67b54cd6867332994a12d8850ad94", func := "acequia/acequialaw43.SaltShares", spec := "saltShares", unfollowed := true, recurses := true, apart := false }
def SaltSharesSaid : Prop := saltSharesRow.holds Try.pinned (OpenSpec.ofChange saltSharesSpec)

/-- ITS FALSE NEIGHBOUR: 'it returns false'. Refute it at one input. -/
def saltSharesWrong : ChangeSpec := { name := "saltShares", fn := fun _ => fun
  | [d1, d2, d3, d4, d5] => { results := [.lit (.bool false)], args := [d1, d2, d3, d4, d5] }
  | _ => none }
def SaltSharesWrongFalsely : Prop := saltSharesRow.holds Try.pinned (OpenSpec.ofChange saltSharesWrong)

/-- 'acequialaw43.SaltJoined': WHATEVER THE INPUT: true; the input reads as it did. -/
def saltJoinedSpec : ChangeSpec := { name := "saltJoined", fn := fun _ => fun
  | [d1, d2, d3, d4] => { results := [.lit (.bool true)], args := [d1, d2, d3, d4] }
  | _ => none }
def saltJoinedRow : OpenClaim := { program := "ythmebjbaigiehaa", sum := "31eff8da8d2b21c6f853ad988c96028adac67b54cd6867332994a12d8850ad94", func := "acequia/acequialaw43.SaltJoined", spec := "saltJoined", unfollowed := true, recurses := true, apart := false }
def SaltJoinedSaid : Prop := saltJoinedRow.holds Try.pinned (OpenSpec.ofChange saltJoinedSpec)

/-- ITS FALSE NEIGHBOUR: 'it returns false'. Refute it at one input. -/
def saltJoinedWrong : ChangeSpec := { name := "saltJoined", fn := fun _ => fun
  | [d1, d2, d3, d4] => { results := [.lit (.bool false)], args := [d1, d2, d3, d4] }
  | _ => none }
def SaltJoinedWrongFalsely : Prop := saltJoinedRow.holds Try.pinned (OpenSpec.ofChange saltJoinedWrong)

/-- 'acequialaw43.SaltOrder': WHATEVER THE INPUT: true; the input reads as it did. -/
def saltOrderSpec : ChangeSpec := { name := "saltOrder", fn := fun _ => fun
  | [d1, d2] => { results := [.lit (.bool true)], args := [d1, d2] }
  | _ => none }
def saltOrderRow : OpenClaim := { program := "ythmebjbaigiehaa", sum := "31eff8da8d2b21c6f853ad988c96028adac67b54cd6867332994a12d8850ad94", func := "acequia/acequialaw43.SaltOrder", spec := "saltOrder", unfollowed := true, recurses := true, apart := false }
def SaltOrderSaid : Prop := saltOrderRow.holds Try.pinned (OpenSpec.ofChange saltOrderSpec)

/-- ITS FALSE NEIGHBOUR: 'it returns false'. Refute it at one input. -/
def saltOrderWrong : ChangeSpec := { name := "saltOrder", fn := fun _ => fun
  | [d1, d2] => { results := [.lit (.bool false)], args := [d1, d2] }
  | _ => none }
def SaltOrderWrongFalsely : Prop := saltOrderRow.holds Try.pinned (OpenSpec.ofChange saltOrderWrong)

/-- 'acequialaw43.SaltLeaching': WHATEVER THE INPUT: true; the input reads as it did. -/
def saltLeachingSpec : ChangeSpec := { name := "saltLeaching", fn := fun _ => fun
  | [d1, d2, d3, d4, d5, d6] => { results := [.lit (.bool true)], args := [d1, d2, d3, d4, d5, d6] }
  | _ => none }
def saltLeachingRow : OpenClaim := { program := "ythmebjbaigiehaa", sum := "31eff8da8d2b21c6f853ad988c96028adac67b54cd6867332994a12d8850ad94", func := "acequia/acequialaw43.SaltLeaching", spec := "saltLeaching", unfollowed := true, recurses := true, apart := false }
def SaltLeachingSaid : Prop := saltLeachingRow.holds Try.pinned (OpenSpec.ofChange saltLeachingSpec)

/-- ITS FALSE NEIGHBOUR: 'it returns false'. Refute it at one input. -/
def saltLeachingWrong : ChangeSpec := { name := "saltLeaching", fn := fun _ => fun
  | [d1, d2, d3, d4, d5, d6] => { results := [.lit (.bool false)], args := [d1, d2, d3, d4, d5, d6] }
  | _ => none }
def SaltLeachingWrongFalsely : Prop := saltLeachingRow.holds Try.pinned (OpenSpec.ofChange saltLeachingWrong)

/- THE SECOND FORM. 'bulk': how many values and letters a reading holds, each counted each time it is reached (what is shared counts as often as it is met; a slice's spare places count too). A statement '..UptoSaid' is the law's where the arguments, and the package variables that the reading takes, are together of bulk at most 1048576: NARROWER than '..Said'. Prove '..Said' where nothing that the law and all that it calls make is longer than what came in: it says more and counts as full. Else prove '..UptoSaid'. A law counts once. -/
mutual
def uptoBulk {H : Type} : DataW H → Nat
  | .lit (.string bytes) => bytes.length + 1
  | .lit _ => 1
  | .nil => 1
  | .ptr d => uptoBulk d + 1
  | .slice elems spare => uptoBulkAll elems + uptoBulkAll spare + 1
  | .agg parts => uptoBulkAll parts + 1
  | .iface _ d => uptoBulk d + 1
  | .map entries => uptoBulkEntries entries + 1
  | .held _ => 1
def uptoBulkAll {H : Type} : List (DataW H) → Nat
  | [] => 0
  | d :: r => uptoBulk d + uptoBulkAll r
def uptoBulkEntries {H : Type} : List (Lit × DataW H) → Nat
  | [] => 0
  | x :: r => uptoBulkEntry x + uptoBulkEntries r
def uptoBulkEntry {H : Type} : Lit × DataW H → Nat
  | (.string bytes, d) => bytes.length + uptoBulk d + 1
  | (_, d) => uptoBulk d + 1
 end
def uptoSmall : (H : Type) → List (DataW H) → Bool := fun _ ds => decide (uptoBulkAll ds ≤ 1048576)
def OpenSpec.upto (s : _root_.Go.ChangeSpec) : _root_.Go.OpenSpec := { _root_.Go.OpenSpec.ofChange s with cond := some uptoSmall }

/-- 'acequialaw43.SaltSpec', WHERE WHAT IT READS IS OF BULK AT MOST 1048576: true; the input reads as it did. -/
def saltSpecUptoRow : OpenClaim := { program := "ythmebjbaigiehaa", sum := "31eff8da8d2b21c6f853ad988c96028adac67b54cd6867332994a12d8850ad94", func := "acequia/acequialaw43.SaltSpec", spec := "saltSpec", unfollowed := true, recurses := true, apart := false, narrowed := true }
def SaltSpecUptoSaid : Prop := saltSpecUptoRow.holds Try.pinned (OpenSpec.upto saltSpecSpec)

/-- 'acequialaw43.SaltSplitSpec', WHERE WHAT IT READS IS OF BULK AT MOST 1048576: true; the input reads as it did. -/
def saltSplitSpecUptoRow : OpenClaim := { program := "ythmebjbaigiehaa", sum := "31eff8da8d2b21c6f853ad988c96028adac67b54cd6867332994a12d8850ad94", func := "acequia/acequialaw43.SaltSplitSpec", spec := "saltSplitSpec", unfollowed := true, recurses := true, apart := false, narrowed := true }
def SaltSplitSpecUptoSaid : Prop := saltSplitSpecUptoRow.holds Try.pinned (OpenSpec.upto saltSplitSpecSpec)

/-- 'acequialaw43.SaltLeachSpec', WHERE WHAT IT READS IS OF BULK AT MOST 1048576: true; the input reads as it did. -/
def saltLeachSpecUptoRow : OpenClaim := { program := "ythmebjbaigiehaa", sum := "31eff8da8d2b21c6f853ad988c96028adac67b54cd6867332994a12d8850ad94", func := "acequia/acequialaw43.SaltLeachSpec", spec := "saltLeachSpec", unfollowed := true, recurses := true, apart := false, narrowed := true }
def SaltLeachSpecUptoSaid : Prop := saltLeachSpecUptoRow.holds Try.pinned (OpenSpec.upto saltLeachSpecSpec)

/-- 'acequialaw43.SaltConserved', WHERE WHAT IT READS IS OF BULK AT MOST 1048576: true; the input reads as it did. -/
def saltConservedUptoRow : OpenClaim := { program := "ythmebjbaigiehaa", sum := "31eff8da8d2b21c6f853ad988c96028adac67b54cd6867332994a12d8850ad94", func := "acequia/acequialaw43.SaltConserved", spec := "saltConserved", unfollowed := true, recurses := true, apart := false, narrowed := true }
def SaltConservedUptoSaid : Prop := saltConservedUptoRow.holds Try.pinned (OpenSpec.upto saltConservedSpec)

/-- 'acequialaw43.SaltShares', WHERE WHAT IT READS IS OF BULK AT MOST 1048576: true; the input reads as it did. -/
def saltSharesUptoRow : OpenClaim := { program := "ythmebjbaigiehaa", sum := "31eff8da8d2b21c6f853ad988c96028adac67b54cd6867332994a12d8850ad94", func := "acequia/acequialaw43.SaltShares", spec := "saltShares", unfollowed := true, recurses := true, apart := false, narrowed := true }
def SaltSharesUptoSaid : Prop := saltSharesUptoRow.holds Try.pinned (OpenSpec.upto saltSharesSpec)

/-- 'acequialaw43.SaltJoined', WHERE WHAT IT READS IS OF BULK AT MOST 1048576: true; the input reads as it did. -/
def saltJoinedUptoRow : OpenClaim := { program := "ythmebjbaigiehaa", sum := "31eff8da8d2b21c6f853ad988c96028adac67b54cd6867332994a12d8850ad94", func := "acequia/acequialaw43.SaltJoined", spec := "saltJoined", unfollowed := true, recurses := true, apart := false, narrowed := true }
def SaltJoinedUptoSaid : Prop := saltJoinedUptoRow.holds Try.pinned (OpenSpec.upto saltJoinedSpec)

/-- 'acequialaw43.SaltOrder', WHERE WHAT IT READS IS OF BULK AT MOST 1048576: true; the input reads as it did. -/
def saltOrderUptoRow : OpenClaim := { program := "ythmebjbaigiehaa", sum := "31eff8da8d2b21c6f853ad988c96028adac67b54cd6867332994a12d8850ad94", func := "acequia/acequialaw43.SaltOrder", spec := "saltOrder", unfollowed := true, recurses := true, apart := false, narrowed := true }
def SaltOrderUptoSaid : Prop := saltOrderUptoRow.holds Try.pinned (OpenSpec.upto saltOrderSpec)

/-- 'acequialaw43.SaltLeaching', WHERE WHAT IT READS IS OF BULK AT MOST 1048576: true; the input reads as it did. -/
def saltLeachingUptoRow : OpenClaim := { program := "ythmebjbaigiehaa", sum := "31eff8da8d2b21c6f853ad988c96028adac67b54cd6867332994a12d8850ad94", func := "acequia/acequialaw43.SaltLeaching", spec := "saltLeaching", unfollowed := true, recurses := true, apart := false, narrowed := true }
def SaltLeachingUptoSaid : Prop := saltLeachingUptoRow.holds Try.pinned (OpenSpec.upto saltLeachingSpec)

end Rows
end Go.Proofs.Ythmebjbaigiehaa
