/-
  No cell of these rows narrows 'for every input' (looked for: loops, veiled, ifaces, maps, wideKeys, modest, calm, conditions, laid).
  DERIVED. THE GIVEN ROWS OF THIS SEAT. 4 by the template 'for every input the law returns true; each argument reads behind the call as it read before'; 0 by the template 'total and deterministic' (their statements: YtnongnchpplacaaTotals.lean).
  GIVEN WITH THE SEED: the statements are not yours to turn. If you find one false, say at which input.
  Laid BY PROGRAM, IN A SANDBOX (cutbox-rows.mjs): the forced cells as the released guide's own fill.sh prints them over the translation 430b06b90414e2c4… (all of the seat's roots in one cut). By AI agents, Wed Nov 11 2026. No macro, syntax, notation, axiom, sorry.
-/
import Derived.Test.YtnongnchpplacaaChecked
import GoSem.Claim
import GoSem.ClaimJoined
import GoSem.ClaimMapViews
import Derived.JoinedTies
import Derived.KernelRfl
namespace Go.Proofs.Ytnongnchpplacaa
/- THE CELL 'sum', in the pinned program and in every row, IS THE sha256 OF THE DUMP (.gsa) THAT YtnongnchpplacaaProg.lean LOADS. Nothing in Lean hashes anything: it is a label: what it is worth is what the hold of that sum in a sandbox is worth. -/
noncomputable def Try.pinned : Pinned := { name := "ytnongnchpplacaa", sum := "430b06b90414e2c4b73c5670e3d50a843c361a2410dea8fb62c8a304f2334b8c", checked := Try.checked }
namespace Rows
def none {H : Type} : Left H := { results := [], args := [] }

/-- 'laws.FnNotebooks': WHATEVER THE INPUT: true; the input reads as it did. -/
def fnNotebooksSpec : ChangeSpec := { name := "fnNotebooks", fn := fun _ => fun
  | [d] => { results := [.lit (.bool true)], args := [d] }
  | _ => none }
def fnNotebooksRow : OpenClaim := { program := "ytnongnchpplacaa", sum := "430b06b90414e2c4b73c5670e3d50a843c361a2410dea8fb62c8a304f2334b8c", func := "loop.example/g00510/laws.FnNotebooks", spec := "fnNotebooks", recurses := true, apart := false }
def FnNotebooksSaid : Prop := fnNotebooksRow.holds Try.pinned (OpenSpec.ofChange fnNotebooksSpec)

/-- ITS FALSE NEIGHBOUR: 'it returns false'. Refute it at one input. -/
def fnNotebooksWrong : ChangeSpec := { name := "fnNotebooks", fn := fun _ => fun
  | [d] => { results := [.lit (.bool false)], args := [d] }
  | _ => none }
def FnNotebooksWrongFalsely : Prop := fnNotebooksRow.holds Try.pinned (OpenSpec.ofChange fnNotebooksWrong)

/-- 'laws.FnInverse': WHATEVER THE INPUT: true; the input reads as it did. -/
def fnInverseSpec : ChangeSpec := { name := "fnInverse", fn := fun _ => fun
  | [d] => { results := [.lit (.bool true)], args := [d] }
  | _ => none }
def fnInverseRow : OpenClaim := { program := "ytnongnchpplacaa", sum := "430b06b90414e2c4b73c5670e3d50a843c361a2410dea8fb62c8a304f2334b8c", func := "loop.example/g00510/laws.FnInverse", spec := "fnInverse", recurses := true, apart := false }
def FnInverseSaid : Prop := fnInverseRow.holds Try.pinned (OpenSpec.ofChange fnInverseSpec)

/-- ITS FALSE NEIGHBOUR: 'it returns false'. Refute it at one input. -/
def fnInverseWrong : ChangeSpec := { name := "fnInverse", fn := fun _ => fun
  | [d] => { results := [.lit (.bool false)], args := [d] }
  | _ => none }
def FnInverseWrongFalsely : Prop := fnInverseRow.holds Try.pinned (OpenSpec.ofChange fnInverseWrong)

/-- 'laws.FnEdited': WHATEVER THE INPUT: true; the input reads as it did. -/
def fnEditedSpec : ChangeSpec := { name := "fnEdited", fn := fun _ => fun
  | [d] => { results := [.lit (.bool true)], args := [d] }
  | _ => none }
def fnEditedRow : OpenClaim := { program := "ytnongnchpplacaa", sum := "430b06b90414e2c4b73c5670e3d50a843c361a2410dea8fb62c8a304f2334b8c", func := "loop.example/g00510/laws.FnEdited", spec := "fnEdited", recurses := true, apart := false }
def FnEditedSaid : Prop := fnEditedRow.holds Try.pinned (OpenSpec.ofChange fnEditedSpec)

/-- ITS FALSE NEIGHBOUR: 'it returns false'. Refute it at one input. -/
def fnEditedWrong : ChangeSpec := { name := "fnEdited", fn := fun _ => fun
  | [d] => { results := [.lit (.bool false)], args := [d] }
  | _ => none }
def FnEditedWrongFalsely : Prop := fnEditedRow.holds Try.pinned (OpenSpec.ofChange fnEditedWrong)

/-- 'laws.FnEdits': WHATEVER THE INPUT: true; the input reads as it did. -/
def fnEditsSpec : ChangeSpec := { name := "fnEdits", fn := fun _ => fun
  | [d] => { results := [.lit (.bool true)], args := [d] }
  | _ => none }
def fnEditsRow : OpenClaim := { program := "ytnongnchpplacaa", sum := "430b06b90414e2c4b73c5670e3d50a843c361a2410dea8fb62c8a304f2334b8c", func := "loop.example/g00510/laws.FnEdits", spec := "fnEdits", recurses := true, apart := false }
def FnEditsSaid : Prop := fnEditsRow.holds Try.pinned (OpenSpec.ofChange fnEditsSpec)

/-- ITS FALSE NEIGHBOUR: 'it returns false'. Refute it at one input. -/
def fnEditsWrong : ChangeSpec := { name := "fnEdits", fn := fun _ => fun
  | [d] => { results := [.lit (.bool false)], args := [d] }
  | _ => none }
def FnEditsWrongFalsely : Prop := fnEditsRow.holds Try.pinned (OpenSpec.ofChange fnEditsWrong)

/- THE SECOND FORM. 'bulk': how many values and letters a reading holds, each counted each time it is reached (what is shared counts as often as it is met; a slice's spare places count too). A statement '..UptoSaid' is the law's where the arguments, and the package variables that the reading takes, are together of bulk at most 1048576: NARROWER than '..Said'. Prove '..Said' where nothing that the law and all that it calls make is longer than what came in: it says more and counts as full. Else prove '..UptoSaid'. A law counts once. -/
mutual
def uptoBulk {H : Type} : DataW H → Nat
  | .lit (.string bytes) => bytes.length + 1
  | .lit _ => 1
  | .nil => 1
  | .ptr d => uptoBulk d + 1
  | .slice elems spare => uptoBulkAll elems + uptoBulkAll spare + 1
  | .agg parts => uptoBulkAll parts + 1
  | .iface _ d => uptoBulk d + 1
  | .map entries => uptoBulkEntries entries + 1
  | .held _ => 1
def uptoBulkAll {H : Type} : List (DataW H) → Nat
  | [] => 0
  | d :: r => uptoBulk d + uptoBulkAll r
def uptoBulkEntries {H : Type} : List (Lit × DataW H) → Nat
  | [] => 0
  | x :: r => uptoBulkEntry x + uptoBulkEntries r
def uptoBulkEntry {H : Type} : Lit × DataW H → Nat
  | (.string bytes, d) => bytes.length + uptoBulk d + 1
  | (_, d) => uptoBulk d + 1
 end
def uptoSmall : (H : Type) → List (DataW H) → Bool := fun _ ds => decide (uptoBulkAll ds ≤ 1048576)
def OpenSpec.upto (s : _root_.Go.ChangeSpec) : _root_.Go.OpenSpec := { _root_.Go.OpenSpec.ofChange s with cond := some uptoSmall }

/-- 'laws.FnNotebooks', WHERE WHAT IT READS IS OF BULK AT MOST 1048576: true; the input reads as it did. -/
def fnNotebooksUptoRow : OpenClaim := { program := "ytnongnchpplacaa", sum := "430b06b90414e2c4b73c5670e3d50a843c361a2410dea8fb62c8a304f2334b8c", func := "loop.example/g00510/laws.FnNotebooks", spec := "fnNotebooks", recurses := true, apart := false, narrowed := true }
def FnNotebooksUptoSaid : Prop := fnNotebooksUptoRow.holds Try.pinned (OpenSpec.upto fnNotebooksSpec)

/-- 'laws.FnInverse', WHERE WHAT IT READS IS OF BULK AT MOST 1048576: true; the input reads as it did. -/
def fnInverseUptoRow : OpenClaim := { program := "ytnongnchpplacaa", sum := "430b06b90414e2c4b73c5670e3d50a843c361a2410dea8fb62c8a304f2334b8c", func := "loop.example/g00510/laws.FnInverse", spec := "fnInverse", recurses := true, apart := false, narrowed := true }
def FnInverseUptoSaid : Prop := fnInverseUptoRow.holds Try.pinned (OpenSpec.upto fnInverseSpec)

/-- 'laws.FnEdited', WHERE WHAT IT READS IS OF BULK AT MOST 1048576: true; the input reads as it did. -/
def fnEditedUptoRow : OpenClaim := { program := "ytnongnchpplacaa", sum := "430b06b90414e2c4b73c5670e3d50a843c361a2410dea8fb62c8a304f2334b8c", func := "loop.example/g00510/laws.FnEdited", spec := "fnEdited", recurses := true, apart := false, narrowed := true }
def FnEditedUptoSaid : Prop := fnEditedUptoRow.holds Try.pinned (OpenSpec.upto fnEditedSpec)

/-- 'laws.FnEdits', WHERE WHAT IT READS IS OF BULK AT MOST 1048576: true; the input reads as it did. -/
def fnEditsUptoRow : OpenClaim := { program := "ytnongnchpplacaa", sum := "430b06b90414e2c4b73c5670e3d50a843c361a2410dea8fb62c8a304f2334b8c", func := "loop.example/g00510/laws.FnEdits", spec := "fnEdits", recurses := true, apart := false, narrowed := true }
def FnEditsUptoSaid : Prop := fnEditsUptoRow.holds Try.pinned (OpenSpec.upto fnEditsSpec)

end Rows
end Go.Proofs.Ytnongnchpplacaa
