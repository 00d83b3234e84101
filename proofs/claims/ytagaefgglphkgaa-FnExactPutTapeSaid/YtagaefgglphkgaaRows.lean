/-
  NARROWER THAN 'FOR EVERY INPUT', by the rows' own cells (each row's printed sentence says how): FnExactTapeOf: loops · FnExactNameValue: loops · FnExactPutTape: loops · FnExactCopyTape: loops.
  DERIVED. THE GIVEN ROWS OF THIS SEAT. 4 by the template 'for every input the law returns true; each argument reads behind the call as it read before'; 0 by the template 'total and deterministic' (their statements: YtagaefgglphkgaaTotals.lean).
  GIVEN WITH THE SEED: the statements are not yours to turn. If you find one false, say at which input.
  Laid BY PROGRAM, IN A SANDBOX (cutbox-rows.mjs): the forced cells as the released guide's own fill.sh prints them over the translation d1946e7d599bb15b… (all of the seat's roots in one cut). By AI agents, Wed Nov 11 2026. No macro, syntax, notation, axiom, sorry.
-/
import Derived.Test.YtagaefgglphkgaaChecked
import GoSem.Claim
import GoSem.ClaimJoined
import GoSem.ClaimMapViews
import Derived.JoinedTies
import Derived.KernelRfl
namespace Go.Proofs.Ytagaefgglphkgaa
/- THE CELL 'sum', in the pinned program and in every row, IS THE sha256 OF THE DUMP (.gsa) THAT YtagaefgglphkgaaProg.lean LOADS. Nothing in Lean hashes anything: it is a label: what it is worth is what the hold of that sum in a sandbox is worth. -/
noncomputable def Try.pinned : Pinned := { name := "ytagaefgglphkgaa", sum := "d1946e7d599bb15bb473c82f5bbabe6644e3e0bcdd6684967e02489e76bbe0da", checked := Try.checked }
namespace Rows
def none {H : Type} : Left H := { results := [], args := [] }

/-- 'laws.FnExactTapeOf': WHATEVER THE INPUT: true; the input reads as it did. -/
def fnExactTapeOfSpec : ChangeSpec := { name := "fnExactTapeOf", fn := fun _ => fun
  | [d1, d2, d3] => { results := [.lit (.bool true)], args := [d1, d2, d3] }
  | _ => none }
def fnExactTapeOfRow : OpenClaim := { program := "ytagaefgglphkgaa", sum := "d1946e7d599bb15bb473c82f5bbabe6644e3e0bcdd6684967e02489e76bbe0da", func := "loop.example/g00510/laws.FnExactTapeOf", spec := "fnExactTapeOf", recurses := true, loops := true, apart := false }
def FnExactTapeOfSaid : Prop := fnExactTapeOfRow.holds Try.pinned (OpenSpec.ofChange fnExactTapeOfSpec)

/-- ITS FALSE NEIGHBOUR: 'it returns false'. Refute it at one input. -/
def fnExactTapeOfWrong : ChangeSpec := { name := "fnExactTapeOf", fn := fun _ => fun
  | [d1, d2, d3] => { results := [.lit (.bool false)], args := [d1, d2, d3] }
  | _ => none }
def FnExactTapeOfWrongFalsely : Prop := fnExactTapeOfRow.holds Try.pinned (OpenSpec.ofChange fnExactTapeOfWrong)

/-- 'laws.FnExactNameValue': WHATEVER THE INPUT: true; the input reads as it did. -/
def fnExactNameValueSpec : ChangeSpec := { name := "fnExactNameValue", fn := fun _ => fun
  | [d1, d2, d3] => { results := [.lit (.bool true)], args := [d1, d2, d3] }
  | _ => none }
def fnExactNameValueRow : OpenClaim := { program := "ytagaefgglphkgaa", sum := "d1946e7d599bb15bb473c82f5bbabe6644e3e0bcdd6684967e02489e76bbe0da", func := "loop.example/g00510/laws.FnExactNameValue", spec := "fnExactNameValue", recurses := true, loops := true, apart := false }
def FnExactNameValueSaid : Prop := fnExactNameValueRow.holds Try.pinned (OpenSpec.ofChange fnExactNameValueSpec)

/-- ITS FALSE NEIGHBOUR: 'it returns false'. Refute it at one input. -/
def fnExactNameValueWrong : ChangeSpec := { name := "fnExactNameValue", fn := fun _ => fun
  | [d1, d2, d3] => { results := [.lit (.bool false)], args := [d1, d2, d3] }
  | _ => none }
def FnExactNameValueWrongFalsely : Prop := fnExactNameValueRow.holds Try.pinned (OpenSpec.ofChange fnExactNameValueWrong)

/-- 'laws.FnExactPutTape': WHATEVER THE INPUT: true; the input reads as it did. -/
def fnExactPutTapeSpec : ChangeSpec := { name := "fnExactPutTape", fn := fun _ => fun
  | [d1, d2, d3, d4] => { results := [.lit (.bool true)], args := [d1, d2, d3, d4] }
  | _ => none }
def fnExactPutTapeRow : OpenClaim := { program := "ytagaefgglphkgaa", sum := "d1946e7d599bb15bb473c82f5bbabe6644e3e0bcdd6684967e02489e76bbe0da", func := "loop.example/g00510/laws.FnExactPutTape", spec := "fnExactPutTape", recurses := true, loops := true, apart := false }
def FnExactPutTapeSaid : Prop := fnExactPutTapeRow.holds Try.pinned (OpenSpec.ofChange fnExactPutTapeSpec)

/-- ITS FALSE NEIGHBOUR: 'it returns false'. Refute it at one input. -/
def fnExactPutTapeWrong : ChangeSpec := { name := "fnExactPutTape", fn := fun _ => fun
  | [d1, d2, d3, d4] => { results := [.lit (.bool false)], args := [d1, d2, d3, d4] }
  | _ => none }
def FnExactPutTapeWrongFalsely : Prop := fnExactPutTapeRow.holds Try.pinned (OpenSpec.ofChange fnExactPutTapeWrong)

/-- 'laws.FnExactCopyTape': WHATEVER THE INPUT: true; the input reads as it did. -/
def fnExactCopyTapeSpec : ChangeSpec := { name := "fnExactCopyTape", fn := fun _ => fun
  | [d1, d2, d3, d4] => { results := [.lit (.bool true)], args := [d1, d2, d3, d4] }
  | _ => none }
def fnExactCopyTapeRow : OpenClaim := { program := "ytagaefgglphkgaa", sum := "d1946e7d599bb15bb473c82f5bbabe6644e3e0bcdd6684967e02489e76bbe0da", func := "loop.example/g00510/laws.FnExactCopyTape", spec := "fnExactCopyTape", recurses := true, loops := true, apart := false }
def FnExactCopyTapeSaid : Prop := fnExactCopyTapeRow.holds Try.pinned (OpenSpec.ofChange fnExactCopyTapeSpec)

/-- ITS FALSE NEIGHBOUR: 'it returns false'. Refute it at one input. -/
def fnExactCopyTapeWrong : ChangeSpec := { name := "fnExactCopyTape", fn := fun _ => fun
  | [d1, d2, d3, d4] => { results := [.lit (.bool false)], args := [d1, d2, d3, d4] }
  | _ => none }
def FnExactCopyTapeWrongFalsely : Prop := fnExactCopyTapeRow.holds Try.pinned (OpenSpec.ofChange fnExactCopyTapeWrong)

/- THE SECOND FORM. 'bulk': how many values and letters a reading holds, each counted each time it is reached (what is shared counts as often as it is met; a slice's spare places count too). A statement '..UptoSaid' is the law's where the arguments, and the package variables that the reading takes, are together of bulk at most 1048576: NARROWER than '..Said'. Prove '..Said' where nothing that the law and all that it calls make is longer than what came in: it says more and counts as full. Else prove '..UptoSaid'. A law counts once. -/
mutual
def uptoBulk {H : Type} : DataW H → Nat
  | .lit (.string bytes) => bytes.length + 1
  | .lit _ => 1
  | .nil => 1
  | .ptr d => uptoBulk d + 1
  | .slice elems spare => uptoBulkAll elems + uptoBulkAll spare + 1
  | .agg parts => uptoBulkAll parts + 1
  | .iface _ d => uptoBulk d + 1
  | .map entries => uptoBulkEntries entries + 1
  | .held _ => 1
def uptoBulkAll {H : Type} : List (DataW H) → Nat
  | [] => 0
  | d :: r => uptoBulk d + uptoBulkAll r
def uptoBulkEntries {H : Type} : List (Lit × DataW H) → Nat
  | [] => 0
  | x :: r => uptoBulkEntry x + uptoBulkEntries r
def uptoBulkEntry {H : Type} : Lit × DataW H → Nat
  | (.string bytes, d) => bytes.length + uptoBulk d + 1
  | (_, d) => uptoBulk d + 1
 end
def uptoSmall : (H : Type) → List (DataW H) → Bool := fun _ ds => decide (uptoBulkAll ds ≤ 1048576)
def OpenSpec.upto (s : _root_.Go.ChangeSpec) : _root_.Go.OpenSpec := { _root_.Go.OpenSpec.ofChange s with cond := some uptoSmall }

/-- 'laws.FnExactTapeOf', WHERE WHAT IT READS IS OF BULK AT MOST 1048576: true; the input reads as it did. -/
def fnExactTapeOfUptoRow : OpenClaim := { program := "ytagaefgglphkgaa", sum := "d1946e7d599bb15bb473c82f5bbabe6644e3e0bcdd6684967e02489e76bbe0da", func := "loop.example/g00510/laws.FnExactTapeOf", spec := "fnExactTapeOf", recurses := true, loops := true, apart := false, narrowed := true }
def FnExactTapeOfUptoSaid : Prop := fnExactTapeOfUptoRow.holds Try.pinned (OpenSpec.upto fnExactTapeOfSpec)

/-- 'laws.FnExactNameValue', WHERE WHAT IT READS IS OF BULK AT MOST 1048576: true; the input reads as it did. -/
def fnExactNameValueUptoRow : OpenClaim := { program := "ytagaefgglphkgaa", sum := "d1946e7d599bb15bb473c82f5bbabe6644e3e0bcdd6684967e02489e76bbe0da", func := "loop.example/g00510/laws.FnExactNameValue", spec := "fnExactNameValue", recurses := true, loops := true, apart := false, narrowed := true }
def FnExactNameValueUptoSaid : Prop := fnExactNameValueUptoRow.holds Try.pinned (OpenSpec.upto fnExactNameValueSpec)

/-- 'laws.FnExactPutTape', WHERE WHAT IT READS IS OF BULK AT MOST 1048576: true; the input reads as it did. -/
def fnExactPutTapeUptoRow : OpenClaim := { program := "ytagaefgglphkgaa", sum := "d1946e7d599bb15bb473c82f5bbabe6644e3e0bcdd6684967e02489e76bbe0da", func := "loop.example/g00510/laws.FnExactPutTape", spec := "fnExactPutTape", recurses := true, loops := true, apart := false, narrowed := true }
def FnExactPutTapeUptoSaid : Prop := fnExactPutTapeUptoRow.holds Try.pinned (OpenSpec.upto fnExactPutTapeSpec)

/-- 'laws.FnExactCopyTape', WHERE WHAT IT READS IS OF BULK AT MOST 1048576: true; the input reads as it did. -/
def fnExactCopyTapeUptoRow : OpenClaim := { program := "ytagaefgglphkgaa", sum := "d1946e7d599bb15bb473c82f5bbabe6644e3e0bcdd6684967e02489e76bbe0da", func := "loop.example/g00510/laws.FnExactCopyTape", spec := "fnExactCopyTape", recurses := true, loops := true, apart := false, narrowed := true }
def FnExactCopyTapeUptoSaid : Prop := fnExactCopyTapeUptoRow.holds Try.pinned (OpenSpec.upto fnExactCopyTapeSpec)

end Rows
end Go.Proofs.Ytagaefgglphkgaa
