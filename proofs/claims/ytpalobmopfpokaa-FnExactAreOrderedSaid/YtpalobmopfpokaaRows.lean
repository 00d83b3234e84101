/-
  NARROWER THAN 'FOR EVERY INPUT', by the rows' own cells (each row's printed sentence says how): FnExactCountReads: loops · FnExactAreOrdered: loops · FnExactIsDuplicate: loops.
  DERIVED. THE GIVEN ROWS OF THIS SEAT. 5 by the template 'for every input the law returns true; each argument reads behind the call as it read before'; 0 by the template 'total and deterministic' (their statements: YtpalobmopfpokaaTotals.lean).
  GIVEN WITH THE SEED: the statements are not yours to turn. If you find one false, say at which input.
  Laid BY PROGRAM, IN A SANDBOX (cutbox-rows.mjs): the forced cells as the released guide's own fill.sh prints them over the translation 44a7bfda8c3550ae… (all of the seat's roots in one cut). By AI agents, Wed Nov 11 2026. No macro, syntax, notation, axiom, sorry.
-/
import Derived.Test.YtpalobmopfpokaaChecked
import GoSem.Claim
import GoSem.ClaimJoined
import GoSem.ClaimMapViews
import Derived.JoinedTies
import Derived.KernelRfl
namespace Go.Proofs.Ytpalobmopfpokaa
/- THE CELL 'sum', in the pinned program and in every row, IS THE sha256 OF THE DUMP (.gsa) THAT YtpalobmopfpokaaProg.lean LOADS. Nothing in Lean hashes anything: it is a label: what it is worth is what the hold of that sum in a sandbox is worth. -/
noncomputable def Try.pinned : Pinned := { name := "ytpalobmopfpokaa", sum := "44a7bfda8c3550aeed07e445f2e2c9f01389e417eb403ac81b01b06f60fcfe57", checked := Try.checked }
namespace Rows
def none {H : Type} : Left H := { results := [], args := [] }

/-- 'laws.FnExactSameContent': WHATEVER THE INPUT: true; the input reads as it did. -/
def fnExactSameContentSpec : ChangeSpec := { name := "fnExactSameContent", fn := fun _ => fun
  | [d1, d2] => { results := [.lit (.bool true)], args := [d1, d2] }
  | _ => none }
def fnExactSameContentRow : OpenClaim := { program := "ytpalobmopfpokaa", sum := "44a7bfda8c3550aeed07e445f2e2c9f01389e417eb403ac81b01b06f60fcfe57", func := "loop.example/g00510/laws.FnExactSameContent", spec := "fnExactSameContent", apart := false }
def FnExactSameContentSaid : Prop := fnExactSameContentRow.holds Try.pinned (OpenSpec.ofChange fnExactSameContentSpec)

/-- ITS FALSE NEIGHBOUR: 'it returns false'. Refute it at one input. -/
def fnExactSameContentWrong : ChangeSpec := { name := "fnExactSameContent", fn := fun _ => fun
  | [d1, d2] => { results := [.lit (.bool false)], args := [d1, d2] }
  | _ => none }
def FnExactSameContentWrongFalsely : Prop := fnExactSameContentRow.holds Try.pinned (OpenSpec.ofChange fnExactSameContentWrong)

/-- 'laws.FnExactIsValidNotebook': WHATEVER THE INPUT: true; the input reads as it did. -/
def fnExactIsValidNotebookSpec : ChangeSpec := { name := "fnExactIsValidNotebook", fn := fun _ => fun
  | [d] => { results := [.lit (.bool true)], args := [d] }
  | _ => none }
def fnExactIsValidNotebookRow : OpenClaim := { program := "ytpalobmopfpokaa", sum := "44a7bfda8c3550aeed07e445f2e2c9f01389e417eb403ac81b01b06f60fcfe57", func := "loop.example/g00510/laws.FnExactIsValidNotebook", spec := "fnExactIsValidNotebook", apart := false }
def FnExactIsValidNotebookSaid : Prop := fnExactIsValidNotebookRow.holds Try.pinned (OpenSpec.ofChange fnExactIsValidNotebookSpec)

/-- ITS FALSE NEIGHBOUR: 'it returns false'. Refute it at one input. -/
def fnExactIsValidNotebookWrong : ChangeSpec := { name := "fnExactIsValidNotebook", fn := fun _ => fun
  | [d] => { results := [.lit (.bool false)], args := [d] }
  | _ => none }
def FnExactIsValidNotebookWrongFalsely : Prop := fnExactIsValidNotebookRow.holds Try.pinned (OpenSpec.ofChange fnExactIsValidNotebookWrong)

/-- 'laws.FnExactCountReads': WHATEVER THE INPUT: true; the input reads as it did. -/
def fnExactCountReadsSpec : ChangeSpec := { name := "fnExactCountReads", fn := fun _ => fun
  | [d] => { results := [.lit (.bool true)], args := [d] }
  | _ => none }
def fnExactCountReadsRow : OpenClaim := { program := "ytpalobmopfpokaa", sum := "44a7bfda8c3550aeed07e445f2e2c9f01389e417eb403ac81b01b06f60fcfe57", func := "loop.example/g00510/laws.FnExactCountReads", spec := "fnExactCountReads", recurses := true, loops := true, apart := false }
def FnExactCountReadsSaid : Prop := fnExactCountReadsRow.holds Try.pinned (OpenSpec.ofChange fnExactCountReadsSpec)

/-- ITS FALSE NEIGHBOUR: 'it returns false'. Refute it at one input. -/
def fnExactCountReadsWrong : ChangeSpec := { name := "fnExactCountReads", fn := fun _ => fun
  | [d] => { results := [.lit (.bool false)], args := [d] }
  | _ => none }
def FnExactCountReadsWrongFalsely : Prop := fnExactCountReadsRow.holds Try.pinned (OpenSpec.ofChange fnExactCountReadsWrong)

/-- 'laws.FnExactAreOrdered': WHATEVER THE INPUT: true; the input reads as it did. -/
def fnExactAreOrderedSpec : ChangeSpec := { name := "fnExactAreOrdered", fn := fun _ => fun
  | [d] => { results := [.lit (.bool true)], args := [d] }
  | _ => none }
def fnExactAreOrderedRow : OpenClaim := { program := "ytpalobmopfpokaa", sum := "44a7bfda8c3550aeed07e445f2e2c9f01389e417eb403ac81b01b06f60fcfe57", func := "loop.example/g00510/laws.FnExactAreOrdered", spec := "fnExactAreOrdered", recurses := true, loops := true, apart := false }
def FnExactAreOrderedSaid : Prop := fnExactAreOrderedRow.holds Try.pinned (OpenSpec.ofChange fnExactAreOrderedSpec)

/-- ITS FALSE NEIGHBOUR: 'it returns false'. Refute it at one input. -/
def fnExactAreOrderedWrong : ChangeSpec := { name := "fnExactAreOrdered", fn := fun _ => fun
  | [d] => { results := [.lit (.bool false)], args := [d] }
  | _ => none }
def FnExactAreOrderedWrongFalsely : Prop := fnExactAreOrderedRow.holds Try.pinned (OpenSpec.ofChange fnExactAreOrderedWrong)

/-- 'laws.FnExactIsDuplicate': WHATEVER THE INPUT: true; the input reads as it did. -/
def fnExactIsDuplicateSpec : ChangeSpec := { name := "fnExactIsDuplicate", fn := fun _ => fun
  | [d1, d2] => { results := [.lit (.bool true)], args := [d1, d2] }
  | _ => none }
def fnExactIsDuplicateRow : OpenClaim := { program := "ytpalobmopfpokaa", sum := "44a7bfda8c3550aeed07e445f2e2c9f01389e417eb403ac81b01b06f60fcfe57", func := "loop.example/g00510/laws.FnExactIsDuplicate", spec := "fnExactIsDuplicate", recurses := true, loops := true, apart := false }
def FnExactIsDuplicateSaid : Prop := fnExactIsDuplicateRow.holds Try.pinned (OpenSpec.ofChange fnExactIsDuplicateSpec)

/-- ITS FALSE NEIGHBOUR: 'it returns false'. Refute it at one input. -/
def fnExactIsDuplicateWrong : ChangeSpec := { name := "fnExactIsDuplicate", fn := fun _ => fun
  | [d1, d2] => { results := [.lit (.bool false)], args := [d1, d2] }
  | _ => none }
def FnExactIsDuplicateWrongFalsely : Prop := fnExactIsDuplicateRow.holds Try.pinned (OpenSpec.ofChange fnExactIsDuplicateWrong)

/- THE SECOND FORM. 'bulk': how many values and letters a reading holds, each counted each time it is reached (what is shared counts as often as it is met; a slice's spare places count too). A statement '..UptoSaid' is the law's where the arguments, and the package variables that the reading takes, are together of bulk at most 1048576: NARROWER than '..Said'. Prove '..Said' where nothing that the law and all that it calls make is longer than what came in: it says more and counts as full. Else prove '..UptoSaid'. A law counts once. -/
mutual
def uptoBulk {H : Type} : DataW H → Nat
  | .lit (.string bytes) => bytes.length + 1
  | .lit _ => 1
  | .nil => 1
  | .ptr d => uptoBulk d + 1
  | .slice elems spare => uptoBulkAll elems + uptoBulkAll spare + 1
  | .agg parts => uptoBulkAll parts + 1
  | .iface _ d => uptoBulk d + 1
  | .map entries => uptoBulkEntries entries + 1
  | .held _ => 1
def uptoBulkAll {H : Type} : List (DataW H) → Nat
  | [] => 0
  | d :: r => uptoBulk d + uptoBulkAll r
def uptoBulkEntries {H : Type} : List (Lit × DataW H) → Nat
  | [] => 0
  | x :: r => uptoBulkEntry x + uptoBulkEntries r
def uptoBulkEntry {H : Type} : Lit × DataW H → Nat
  | (.string bytes, d) => bytes.length + uptoBulk d + 1
  | (_, d) => uptoBulk d + 1
 end
def uptoSmall : (H : Type) → List (DataW H) → Bool := fun _ ds => decide (uptoBulkAll ds ≤ 1048576)
def OpenSpec.upto (s : _root_.Go.ChangeSpec) : _root_.Go.OpenSpec := { _root_.Go.OpenSpec.ofChange s with cond := some uptoSmall }

/-- 'laws.FnExactSameContent', WHERE WHAT IT READS IS OF BULK AT MOST 1048576: true; the input reads as it did. -/
def fnExactSameContentUptoRow : OpenClaim := { program := "ytpalobmopfpokaa", sum := "44a7bfda8c3550aeed07e445f2e2c9f01389e417eb403ac81b01b06f60fcfe57", func := "loop.example/g00510/laws.FnExactSameContent", spec := "fnExactSameContent", apart := false, narrowed := true }
def FnExactSameContentUptoSaid : Prop := fnExactSameContentUptoRow.holds Try.pinned (OpenSpec.upto fnExactSameContentSpec)

/-- 'laws.FnExactIsValidNotebook', WHERE WHAT IT READS IS OF BULK AT MOST 1048576: true; the input reads as it did. -/
def fnExactIsValidNotebookUptoRow : OpenClaim := { program := "ytpalobmopfpokaa", sum := "44a7bfda8c3550aeed07e445f2e2c9f01389e417eb403ac81b01b06f60fcfe57", func := "loop.example/g00510/laws.FnExactIsValidNotebook", spec := "fnExactIsValidNotebook", apart := false, narrowed := true }
def FnExactIsValidNotebookUptoSaid : Prop := fnExactIsValidNotebookUptoRow.holds Try.pinned (OpenSpec.upto fnExactIsValidNotebookSpec)

/-- 'laws.FnExactCountReads', WHERE WHAT IT READS IS OF BULK AT MOST 1048576: true; the input reads as it did. -/
def fnExactCountReadsUptoRow : OpenClaim := { program := "ytpalobmopfpokaa", sum := "44a7bfda8c3550aeed07e445f2e2c9f01389e417eb403ac81b01b06f60fcfe57", func := "loop.example/g00510/laws.FnExactCountReads", spec := "fnExactCountReads", recurses := true, loops := true, apart := false, narrowed := true }
def FnExactCountReadsUptoSaid : Prop := fnExactCountReadsUptoRow.holds Try.pinned (OpenSpec.upto fnExactCountReadsSpec)

/-- 'laws.FnExactAreOrdered', WHERE WHAT IT READS IS OF BULK AT MOST 1048576: true; the input reads as it did. -/
def fnExactAreOrderedUptoRow : OpenClaim := { program := "ytpalobmopfpokaa", sum := "44a7bfda8c3550aeed07e445f2e2c9f01389e417eb403ac81b01b06f60fcfe57", func := "loop.example/g00510/laws.FnExactAreOrdered", spec := "fnExactAreOrdered", recurses := true, loops := true, apart := false, narrowed := true }
def FnExactAreOrderedUptoSaid : Prop := fnExactAreOrderedUptoRow.holds Try.pinned (OpenSpec.upto fnExactAreOrderedSpec)

/-- 'laws.FnExactIsDuplicate', WHERE WHAT IT READS IS OF BULK AT MOST 1048576: true; the input reads as it did. -/
def fnExactIsDuplicateUptoRow : OpenClaim := { program := "ytpalobmopfpokaa", sum := "44a7bfda8c3550aeed07e445f2e2c9f01389e417eb403ac81b01b06f60fcfe57", func := "loop.example/g00510/laws.FnExactIsDuplicate", spec := "fnExactIsDuplicate", recurses := true, loops := true, apart := false, narrowed := true }
def FnExactIsDuplicateUptoSaid : Prop := fnExactIsDuplicateUptoRow.holds Try.pinned (OpenSpec.upto fnExactIsDuplicateSpec)

end Rows
end Go.Proofs.Ytpalobmopfpokaa
