/-
  NARROWER THAN 'FOR EVERY INPUT', by the rows' own cells (each row's printed sentence says how): FnExactIsDuplicate: loops · FnExactResolve: loops · FnExactDefiners: loops.
  DERIVED. THE GIVEN ROWS OF THIS SEAT. 10 by the template 'for every input the law returns true; each argument reads behind the call as it read before'; 0 by the template 'total and deterministic' (their statements: YtlgfecggocnchaaTotals.lean).
  GIVEN WITH THE SEED: the statements are not yours to turn. If you find one false, say at which input.
  Laid BY PROGRAM, IN A SANDBOX (cutbox-rows.mjs): the forced cells as the released guide's own fill.sh prints them over the translation 4da55bdc6f1a7367… (all of the seat's roots in one cut). By AI agents, Wed Nov 11 2026. No macro, syntax, notation, axiom, sorry.
-/
import Derived.Test.YtlgfecggocnchaaChecked
import GoSem.Claim
import GoSem.ClaimJoined
import GoSem.ClaimMapViews
import Derived.JoinedTies
import Derived.KernelRfl
namespace Go.Proofs.Ytlgfecggocnchaa
/- THE CELL 'sum', in the pinned program and in every row, IS THE sha256 OF THE DUMP (.gsa) THAT YtlgfecggocnchaaProg.lean LOADS. Nothing in Lean hashes anything: it is a label: what it is worth is what the hold of that sum in a sandbox is worth. -/
noncomputable def Try.pinned : Pinned := { name := "ytlgfecggocnchaa", sum := "4da55bdc6f1a73679407ef756771622e5ccfa37780e68f93ff6b48c4d0b5bda8", checked := Try.checked }
namespace Rows
def none {H : Type} : Left H := { results := [], args := [] }

/-- 'laws.FnExactIsDuplicate': WHATEVER THE INPUT: true; the input reads as it did. -/
def fnExactIsDuplicateSpec : ChangeSpec := { name := "fnExactIsDuplicate", fn := fun _ => fun
  | [d1, d2] => { results := [.lit (.bool true)], args := [d1, d2] }
  | _ => none }
def fnExactIsDuplicateRow : OpenClaim := { program := "ytlgfecggocnchaa", sum := "4da55bdc6f1a73679407ef756771622e5ccfa37780e68f93ff6b48c4d0b5bda8", func := "loop.example/g00510/laws.FnExactIsDuplicate", spec := "fnExactIsDuplicate", recurses := true, loops := true, apart := false }
def FnExactIsDuplicateSaid : Prop := fnExactIsDuplicateRow.holds Try.pinned (OpenSpec.ofChange fnExactIsDuplicateSpec)

/-- ITS FALSE NEIGHBOUR: 'it returns false'. Refute it at one input. -/
def fnExactIsDuplicateWrong : ChangeSpec := { name := "fnExactIsDuplicate", fn := fun _ => fun
  | [d1, d2] => { results := [.lit (.bool false)], args := [d1, d2] }
  | _ => none }
def FnExactIsDuplicateWrongFalsely : Prop := fnExactIsDuplicateRow.holds Try.pinned (OpenSpec.ofChange fnExactIsDuplicateWrong)

/-- 'laws.FnExactResolve': WHATEVER THE INPUT: true; the input reads as it did. -/
def fnExactResolveSpec : ChangeSpec := { name := "fnExactResolve", fn := fun _ => fun
  | [d1, d2] => { results := [.lit (.bool true)], args := [d1, d2] }
  | _ => none }
def fnExactResolveRow : OpenClaim := { program := "ytlgfecggocnchaa", sum := "4da55bdc6f1a73679407ef756771622e5ccfa37780e68f93ff6b48c4d0b5bda8", func := "loop.example/g00510/laws.FnExactResolve", spec := "fnExactResolve", recurses := true, loops := true, apart := false }
def FnExactResolveSaid : Prop := fnExactResolveRow.holds Try.pinned (OpenSpec.ofChange fnExactResolveSpec)

/-- ITS FALSE NEIGHBOUR: 'it returns false'. Refute it at one input. -/
def fnExactResolveWrong : ChangeSpec := { name := "fnExactResolve", fn := fun _ => fun
  | [d1, d2] => { results := [.lit (.bool false)], args := [d1, d2] }
  | _ => none }
def FnExactResolveWrongFalsely : Prop := fnExactResolveRow.holds Try.pinned (OpenSpec.ofChange fnExactResolveWrong)

/-- 'laws.FnExactInverseEdit': WHATEVER THE INPUT: true; the input reads as it did. -/
def fnExactInverseEditSpec : ChangeSpec := { name := "fnExactInverseEdit", fn := fun _ => fun
  | [d1, d2] => { results := [.lit (.bool true)], args := [d1, d2] }
  | _ => none }
def fnExactInverseEditRow : OpenClaim := { program := "ytlgfecggocnchaa", sum := "4da55bdc6f1a73679407ef756771622e5ccfa37780e68f93ff6b48c4d0b5bda8", func := "loop.example/g00510/laws.FnExactInverseEdit", spec := "fnExactInverseEdit", apart := false }
def FnExactInverseEditSaid : Prop := fnExactInverseEditRow.holds Try.pinned (OpenSpec.ofChange fnExactInverseEditSpec)

/-- ITS FALSE NEIGHBOUR: 'it returns false'. Refute it at one input. -/
def fnExactInverseEditWrong : ChangeSpec := { name := "fnExactInverseEdit", fn := fun _ => fun
  | [d1, d2] => { results := [.lit (.bool false)], args := [d1, d2] }
  | _ => none }
def FnExactInverseEditWrongFalsely : Prop := fnExactInverseEditRow.holds Try.pinned (OpenSpec.ofChange fnExactInverseEditWrong)

/-- 'laws.FnExactApplyEdit': WHATEVER THE INPUT: true; the input reads as it did. -/
def fnExactApplyEditSpec : ChangeSpec := { name := "fnExactApplyEdit", fn := fun _ => fun
  | [d1, d2] => { results := [.lit (.bool true)], args := [d1, d2] }
  | _ => none }
def fnExactApplyEditRow : OpenClaim := { program := "ytlgfecggocnchaa", sum := "4da55bdc6f1a73679407ef756771622e5ccfa37780e68f93ff6b48c4d0b5bda8", func := "loop.example/g00510/laws.FnExactApplyEdit", spec := "fnExactApplyEdit", apart := false }
def FnExactApplyEditSaid : Prop := fnExactApplyEditRow.holds Try.pinned (OpenSpec.ofChange fnExactApplyEditSpec)

/-- ITS FALSE NEIGHBOUR: 'it returns false'. Refute it at one input. -/
def fnExactApplyEditWrong : ChangeSpec := { name := "fnExactApplyEdit", fn := fun _ => fun
  | [d1, d2] => { results := [.lit (.bool false)], args := [d1, d2] }
  | _ => none }
def FnExactApplyEditWrongFalsely : Prop := fnExactApplyEditRow.holds Try.pinned (OpenSpec.ofChange fnExactApplyEditWrong)

/-- 'laws.FnExactDefiners': WHATEVER THE INPUT: true; the input reads as it did. -/
def fnExactDefinersSpec : ChangeSpec := { name := "fnExactDefiners", fn := fun _ => fun
  | [d1, d2] => { results := [.lit (.bool true)], args := [d1, d2] }
  | _ => none }
def fnExactDefinersRow : OpenClaim := { program := "ytlgfecggocnchaa", sum := "4da55bdc6f1a73679407ef756771622e5ccfa37780e68f93ff6b48c4d0b5bda8", func := "loop.example/g00510/laws.FnExactDefiners", spec := "fnExactDefiners", recurses := true, loops := true, apart := false }
def FnExactDefinersSaid : Prop := fnExactDefinersRow.holds Try.pinned (OpenSpec.ofChange fnExactDefinersSpec)

/-- ITS FALSE NEIGHBOUR: 'it returns false'. Refute it at one input. -/
def fnExactDefinersWrong : ChangeSpec := { name := "fnExactDefiners", fn := fun _ => fun
  | [d1, d2] => { results := [.lit (.bool false)], args := [d1, d2] }
  | _ => none }
def FnExactDefinersWrongFalsely : Prop := fnExactDefinersRow.holds Try.pinned (OpenSpec.ofChange fnExactDefinersWrong)

/-- 'laws.FnExactApplyEdits': WHATEVER THE INPUT: true; the input reads as it did. -/
def fnExactApplyEditsSpec : ChangeSpec := { name := "fnExactApplyEdits", fn := fun _ => fun
  | [d1, d2] => { results := [.lit (.bool true)], args := [d1, d2] }
  | _ => none }
def fnExactApplyEditsRow : OpenClaim := { program := "ytlgfecggocnchaa", sum := "4da55bdc6f1a73679407ef756771622e5ccfa37780e68f93ff6b48c4d0b5bda8", func := "loop.example/g00510/laws.FnExactApplyEdits", spec := "fnExactApplyEdits", apart := false }
def FnExactApplyEditsSaid : Prop := fnExactApplyEditsRow.holds Try.pinned (OpenSpec.ofChange fnExactApplyEditsSpec)

/-- ITS FALSE NEIGHBOUR: 'it returns false'. Refute it at one input. -/
def fnExactApplyEditsWrong : ChangeSpec := { name := "fnExactApplyEdits", fn := fun _ => fun
  | [d1, d2] => { results := [.lit (.bool false)], args := [d1, d2] }
  | _ => none }
def FnExactApplyEditsWrongFalsely : Prop := fnExactApplyEditsRow.holds Try.pinned (OpenSpec.ofChange fnExactApplyEditsWrong)

/-- 'laws.FnNotebooks': WHATEVER THE INPUT: true; the input reads as it did. -/
def fnNotebooksSpec : ChangeSpec := { name := "fnNotebooks", fn := fun _ => fun
  | [d] => { results := [.lit (.bool true)], args := [d] }
  | _ => none }
def fnNotebooksRow : OpenClaim := { program := "ytlgfecggocnchaa", sum := "4da55bdc6f1a73679407ef756771622e5ccfa37780e68f93ff6b48c4d0b5bda8", func := "loop.example/g00510/laws.FnNotebooks", spec := "fnNotebooks", recurses := true, apart := false }
def FnNotebooksSaid : Prop := fnNotebooksRow.holds Try.pinned (OpenSpec.ofChange fnNotebooksSpec)

/-- ITS FALSE NEIGHBOUR: 'it returns false'. Refute it at one input. -/
def fnNotebooksWrong : ChangeSpec := { name := "fnNotebooks", fn := fun _ => fun
  | [d] => { results := [.lit (.bool false)], args := [d] }
  | _ => none }
def FnNotebooksWrongFalsely : Prop := fnNotebooksRow.holds Try.pinned (OpenSpec.ofChange fnNotebooksWrong)

/-- 'laws.FnInverse': WHATEVER THE INPUT: true; the input reads as it did. -/
def fnInverseSpec : ChangeSpec := { name := "fnInverse", fn := fun _ => fun
  | [d] => { results := [.lit (.bool true)], args := [d] }
  | _ => none }
def fnInverseRow : OpenClaim := { program := "ytlgfecggocnchaa", sum := "4da55bdc6f1a73679407ef756771622e5ccfa37780e68f93ff6b48c4d0b5bda8", func := "loop.example/g00510/laws.FnInverse", spec := "fnInverse", recurses := true, apart := false }
def FnInverseSaid : Prop := fnInverseRow.holds Try.pinned (OpenSpec.ofChange fnInverseSpec)

/-- ITS FALSE NEIGHBOUR: 'it returns false'. Refute it at one input. -/
def fnInverseWrong : ChangeSpec := { name := "fnInverse", fn := fun _ => fun
  | [d] => { results := [.lit (.bool false)], args := [d] }
  | _ => none }
def FnInverseWrongFalsely : Prop := fnInverseRow.holds Try.pinned (OpenSpec.ofChange fnInverseWrong)

/-- 'laws.FnEdited': WHATEVER THE INPUT: true; the input reads as it did. -/
def fnEditedSpec : ChangeSpec := { name := "fnEdited", fn := fun _ => fun
  | [d] => { results := [.lit (.bool true)], args := [d] }
  | _ => none }
def fnEditedRow : OpenClaim := { program := "ytlgfecggocnchaa", sum := "4da55bdc6f1a73679407ef756771622e5ccfa37780e68f93ff6b48c4d0b5bda8", func := "loop.example/g00510/laws.FnEdited", spec := "fnEdited", recurses := true, apart := false }
def FnEditedSaid : Prop := fnEditedRow.holds Try.pinned (OpenSpec.ofChange fnEditedSpec)

/-- ITS FALSE NEIGHBOUR: 'it returns false'. Refute it at one input. -/
def fnEditedWrong : ChangeSpec := { name := "fnEdited", fn := fun _ => fun
  | [d] => { results := [.lit (.bool false)], args := [d] }
  | _ => none }
def FnEditedWrongFalsely : Prop := fnEditedRow.holds Try.pinned (OpenSpec.ofChange fnEditedWrong)

/-- 'laws.FnEdits': WHATEVER THE INPUT: true; the input reads as it did. -/
def fnEditsSpec : ChangeSpec := { name := "fnEdits", fn := fun _ => fun
  | [d] => { results := [.lit (.bool true)], args := [d] }
  | _ => none }
def fnEditsRow : OpenClaim := { program := "ytlgfecggocnchaa", sum := "4da55bdc6f1a73679407ef756771622e5ccfa37780e68f93ff6b48c4d0b5bda8", func := "loop.example/g00510/laws.FnEdits", spec := "fnEdits", recurses := true, apart := false }
def FnEditsSaid : Prop := fnEditsRow.holds Try.pinned (OpenSpec.ofChange fnEditsSpec)

/-- ITS FALSE NEIGHBOUR: 'it returns false'. Refute it at one input. -/
def fnEditsWrong : ChangeSpec := { name := "fnEdits", fn := fun _ => fun
  | [d] => { results := [.lit (.bool false)], args := [d] }
  | _ => none }
def FnEditsWrongFalsely : Prop := fnEditsRow.holds Try.pinned (OpenSpec.ofChange fnEditsWrong)

/- THE SECOND FORM. 'bulk': how many values and letters a reading holds, each counted each time it is reached (what is shared counts as often as it is met; a slice's spare places count too). A statement '..UptoSaid' is the law's where the arguments, and the package variables that the reading takes, are together of bulk at most 1048576: NARROWER than '..Said'. Prove '..Said' where nothing that the law and all that it calls make is longer than what came in: it says more and counts as full. Else prove '..UptoSaid'. A law counts once. -/
mutual
def uptoBulk {H : Type} : DataW H → Nat
  | .lit (.string bytes) => bytes.length + 1
  | .lit _ => 1
  | .nil => 1
  | .ptr d => uptoBulk d + 1
  | .slice elems spare => uptoBulkAll elems + uptoBulkAll spare + 1
  | .agg parts => uptoBulkAll parts + 1
  | .iface _ d => uptoBulk d + 1
  | .map entries => uptoBulkEntries entries + 1
  | .held _ => 1
def uptoBulkAll {H : Type} : List (DataW H) → Nat
  | [] => 0
  | d :: r => uptoBulk d + uptoBulkAll r
def uptoBulkEntries {H : Type} : List (Lit × DataW H) → Nat
  | [] => 0
  | x :: r => uptoBulkEntry x + uptoBulkEntries r
def uptoBulkEntry {H : Type} : Lit × DataW H → Nat
  | (.string bytes, d) => bytes.length + uptoBulk d + 1
  | (_, d) => uptoBulk d + 1
 end
def uptoSmall : (H : Type) → List (DataW H) → Bool := fun _ ds => decide (uptoBulkAll ds ≤ 1048576)
def OpenSpec.upto (s : _root_.Go.ChangeSpec) : _root_.Go.OpenSpec := { _root_.Go.OpenSpec.ofChange s with cond := some uptoSmall }

/-- 'laws.FnExactIsDuplicate', WHERE WHAT IT READS IS OF BULK AT MOST 1048576: true; the input reads as it did. -/
def fnExactIsDuplicateUptoRow : OpenClaim := { program := "ytlgfecggocnchaa", sum := "4da55bdc6f1a73679407ef756771622e5ccfa37780e68f93ff6b48c4d0b5bda8", func := "loop.example/g00510/laws.FnExactIsDuplicate", spec := "fnExactIsDuplicate", recurses := true, loops := true, apart := false, narrowed := true }
def FnExactIsDuplicateUptoSaid : Prop := fnExactIsDuplicateUptoRow.holds Try.pinned (OpenSpec.upto fnExactIsDuplicateSpec)

/-- 'laws.FnExactResolve', WHERE WHAT IT READS IS OF BULK AT MOST 1048576: true; the input reads as it did. -/
def fnExactResolveUptoRow : OpenClaim := { program := "ytlgfecggocnchaa", sum := "4da55bdc6f1a73679407ef756771622e5ccfa37780e68f93ff6b48c4d0b5bda8", func := "loop.example/g00510/laws.FnExactResolve", spec := "fnExactResolve", recurses := true, loops := true, apart := false, narrowed := true }
def FnExactResolveUptoSaid : Prop := fnExactResolveUptoRow.holds Try.pinned (OpenSpec.upto fnExactResolveSpec)

/-- 'laws.FnExactInverseEdit', WHERE WHAT IT READS IS OF BULK AT MOST 1048576: true; the input reads as it did. -/
def fnExactInverseEditUptoRow : OpenClaim := { program := "ytlgfecggocnchaa", sum := "4da55bdc6f1a73679407ef756771622e5ccfa37780e68f93ff6b48c4d0b5bda8", func := "loop.example/g00510/laws.FnExactInverseEdit", spec := "fnExactInverseEdit", apart := false, narrowed := true }
def FnExactInverseEditUptoSaid : Prop := fnExactInverseEditUptoRow.holds Try.pinned (OpenSpec.upto fnExactInverseEditSpec)

/-- 'laws.FnExactApplyEdit', WHERE WHAT IT READS IS OF BULK AT MOST 1048576: true; the input reads as it did. -/
def fnExactApplyEditUptoRow : OpenClaim := { program := "ytlgfecggocnchaa", sum := "4da55bdc6f1a73679407ef756771622e5ccfa37780e68f93ff6b48c4d0b5bda8", func := "loop.example/g00510/laws.FnExactApplyEdit", spec := "fnExactApplyEdit", apart := false, narrowed := true }
def FnExactApplyEditUptoSaid : Prop := fnExactApplyEditUptoRow.holds Try.pinned (OpenSpec.upto fnExactApplyEditSpec)

/-- 'laws.FnExactDefiners', WHERE WHAT IT READS IS OF BULK AT MOST 1048576: true; the input reads as it did. -/
def fnExactDefinersUptoRow : OpenClaim := { program := "ytlgfecggocnchaa", sum := "4da55bdc6f1a73679407ef756771622e5ccfa37780e68f93ff6b48c4d0b5bda8", func := "loop.example/g00510/laws.FnExactDefiners", spec := "fnExactDefiners", recurses := true, loops := true, apart := false, narrowed := true }
def FnExactDefinersUptoSaid : Prop := fnExactDefinersUptoRow.holds Try.pinned (OpenSpec.upto fnExactDefinersSpec)

/-- 'laws.FnExactApplyEdits', WHERE WHAT IT READS IS OF BULK AT MOST 1048576: true; the input reads as it did. -/
def fnExactApplyEditsUptoRow : OpenClaim := { program := "ytlgfecggocnchaa", sum := "4da55bdc6f1a73679407ef756771622e5ccfa37780e68f93ff6b48c4d0b5bda8", func := "loop.example/g00510/laws.FnExactApplyEdits", spec := "fnExactApplyEdits", apart := false, narrowed := true }
def FnExactApplyEditsUptoSaid : Prop := fnExactApplyEditsUptoRow.holds Try.pinned (OpenSpec.upto fnExactApplyEditsSpec)

/-- 'laws.FnNotebooks', WHERE WHAT IT READS IS OF BULK AT MOST 1048576: true; the input reads as it did. -/
def fnNotebooksUptoRow : OpenClaim := { program := "ytlgfecggocnchaa", sum := "4da55bdc6f1a73679407ef756771622e5ccfa37780e68f93ff6b48c4d0b5bda8", func := "loop.example/g00510/laws.FnNotebooks", spec := "fnNotebooks", recurses := true, apart := false, narrowed := true }
def FnNotebooksUptoSaid : Prop := fnNotebooksUptoRow.holds Try.pinned (OpenSpec.upto fnNotebooksSpec)

/-- 'laws.FnInverse', WHERE WHAT IT READS IS OF BULK AT MOST 1048576: true; the input reads as it did. -/
def fnInverseUptoRow : OpenClaim := { program := "ytlgfecggocnchaa", sum := "4da55bdc6f1a73679407ef756771622e5ccfa37780e68f93ff6b48c4d0b5bda8", func := "loop.example/g00510/laws.FnInverse", spec := "fnInverse", recurses := true, apart := false, narrowed := true }
def FnInverseUptoSaid : Prop := fnInverseUptoRow.holds Try.pinned (OpenSpec.upto fnInverseSpec)

/-- 'laws.FnEdited', WHERE WHAT IT READS IS OF BULK AT MOST 1048576: true; the input reads as it did. -/
def fnEditedUptoRow : OpenClaim := { program := "ytlgfecggocnchaa", sum := "4da55bdc6f1a73679407ef756771622e5ccfa37780e68f93ff6b48c4d0b5bda8", func := "loop.example/g00510/laws.FnEdited", spec := "fnEdited", recurses := true, apart := false, narrowed := true }
def FnEditedUptoSaid : Prop := fnEditedUptoRow.holds Try.pinned (OpenSpec.upto fnEditedSpec)

/-- 'laws.FnEdits', WHERE WHAT IT READS IS OF BULK AT MOST 1048576: true; the input reads as it did. -/
def fnEditsUptoRow : OpenClaim := { program := "ytlgfecggocnchaa", sum := "4da55bdc6f1a73679407ef756771622e5ccfa37780e68f93ff6b48c4d0b5bda8", func := "loop.example/g00510/laws.FnEdits", spec := "fnEdits", recurses := true, apart := false, narrowed := true }
def FnEditsUptoSaid : Prop := fnEditsUptoRow.holds Try.pinned (OpenSpec.upto fnEditsSpec)

end Rows
end Go.Proofs.Ytlgfecggocnchaa
