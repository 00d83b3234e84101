/-
  No cell of these rows narrows 'for every input' (looked for: loops, veiled, ifaces, maps, wideKeys, modest, calm, conditions, laid).
  DERIVED. THE GIVEN ROWS OF THIS SEAT. 7 by the template 'for every input the law returns true; each argument reads behind the call as it read before'; 0 by the template 'total and deterministic' (their statements: YtfjmoicellpnhaaGreatTotals.lean).
  GIVEN WITH THE SEED: the statements are not yours to turn. If you find one false, say at which input.
  Laid BY PROGRAM, IN A SANDBOX (cutbox-rows.mjs): the forced cells as the released guide's own fill.sh prints them over the translation 701a0de142196f14… (all of the seat's roots in one cut). By AI agents, Wed Nov 11 2026. No macro, syntax, notation, axiom, sorry.
-/
import Derived.Test.YtfjmoicellpnhaaGreatChecked
import GoSem.Claim
import GoSem.ClaimJoined
import GoSem.ClaimMapViews
import Derived.JoinedTies
import Derived.KernelRfl
namespace Go.Proofs.YtfjmoicellpnhaaGreat
/- THE CELL 'sum', in the pinned program and in every row, IS THE sha256 OF THE DUMP (.gsa) THAT YtfjmoicellpnhaaGreatProg.lean LOADS. Nothing in Lean hashes anything: it is a label: what it is worth is what the hold of that sum in a sandbox is worth. -/
noncomputable def Tryz.pinned : Pinned := { name := "ytfjmoicellpnhaagreat", sum := "701a0de142196f14e30a1f6c33c880a20d4a5b5a5176fc1764f96eacf9dbcb67", checked := Tryz.checked }
namespace Rows
def none {H : Type} : Left H := { results := [], args := [] }

/-- 'laws.FnCycles': WHATEVER THE INPUT: true; the input reads as it did. -/
def fnCyclesSpec : ChangeSpec := { name := "fnCycles", fn := fun _ => fun
  | [d] => { results := [.lit (.bool true)], args := [d] }
  | _ => none }
def fnCyclesRow : OpenClaim := { program := "ytfjmoicellpnhaagreat", sum := "701a0de142196f14e30a1f6c33c880a20d4a5b5a5176fc1764f96eacf9dbcb67", func := "loop.example/g00510/laws.FnCycles", spec := "fnCycles", unfollowed := true, recurses := true, apart := false }
def FnCyclesSaid : Prop := fnCyclesRow.holds Tryz.pinned (OpenSpec.ofChange fnCyclesSpec)

/-- ITS FALSE NEIGHBOUR: 'it returns false'. Refute it at one input. -/
def fnCyclesWrong : ChangeSpec := { name := "fnCycles", fn := fun _ => fun
  | [d] => { results := [.lit (.bool false)], args := [d] }
  | _ => none }
def FnCyclesWrongFalsely : Prop := fnCyclesRow.holds Tryz.pinned (OpenSpec.ofChange fnCyclesWrong)

/-- 'laws.FnResolved': WHATEVER THE INPUT: true; the input reads as it did. -/
def fnResolvedSpec : ChangeSpec := { name := "fnResolved", fn := fun _ => fun
  | [d] => { results := [.lit (.bool true)], args := [d] }
  | _ => none }
def fnResolvedRow : OpenClaim := { program := "ytfjmoicellpnhaagreat", sum := "701a0de142196f14e30a1f6c33c880a20d4a5b5a5176fc1764f96eacf9dbcb67", func := "loop.example/g00510/laws.FnResolved", spec := "fnResolved", recurses := true, apart := false }
def FnResolvedSaid : Prop := fnResolvedRow.holds Tryz.pinned (OpenSpec.ofChange fnResolvedSpec)

/-- ITS FALSE NEIGHBOUR: 'it returns false'. Refute it at one input. -/
def fnResolvedWrong : ChangeSpec := { name := "fnResolved", fn := fun _ => fun
  | [d] => { results := [.lit (.bool false)], args := [d] }
  | _ => none }
def FnResolvedWrongFalsely : Prop := fnResolvedRow.holds Tryz.pinned (OpenSpec.ofChange fnResolvedWrong)

/-- 'laws.FnMissing': WHATEVER THE INPUT: true; the input reads as it did. -/
def fnMissingSpec : ChangeSpec := { name := "fnMissing", fn := fun _ => fun
  | [d] => { results := [.lit (.bool true)], args := [d] }
  | _ => none }
def fnMissingRow : OpenClaim := { program := "ytfjmoicellpnhaagreat", sum := "701a0de142196f14e30a1f6c33c880a20d4a5b5a5176fc1764f96eacf9dbcb67", func := "loop.example/g00510/laws.FnMissing", spec := "fnMissing", unfollowed := true, recurses := true, apart := false }
def FnMissingSaid : Prop := fnMissingRow.holds Tryz.pinned (OpenSpec.ofChange fnMissingSpec)

/-- ITS FALSE NEIGHBOUR: 'it returns false'. Refute it at one input. -/
def fnMissingWrong : ChangeSpec := { name := "fnMissing", fn := fun _ => fun
  | [d] => { results := [.lit (.bool false)], args := [d] }
  | _ => none }
def FnMissingWrongFalsely : Prop := fnMissingRow.holds Tryz.pinned (OpenSpec.ofChange fnMissingWrong)

/-- 'laws.FnDepends': WHATEVER THE INPUT: true; the input reads as it did. -/
def fnDependsSpec : ChangeSpec := { name := "fnDepends", fn := fun _ => fun
  | [d] => { results := [.lit (.bool true)], args := [d] }
  | _ => none }
def fnDependsRow : OpenClaim := { program := "ytfjmoicellpnhaagreat", sum := "701a0de142196f14e30a1f6c33c880a20d4a5b5a5176fc1764f96eacf9dbcb67", func := "loop.example/g00510/laws.FnDepends", spec := "fnDepends", unfollowed := true, recurses := true, apart := false }
def FnDependsSaid : Prop := fnDependsRow.holds Tryz.pinned (OpenSpec.ofChange fnDependsSpec)

/-- ITS FALSE NEIGHBOUR: 'it returns false'. Refute it at one input. -/
def fnDependsWrong : ChangeSpec := { name := "fnDepends", fn := fun _ => fun
  | [d] => { results := [.lit (.bool false)], args := [d] }
  | _ => none }
def FnDependsWrongFalsely : Prop := fnDependsRow.holds Tryz.pinned (OpenSpec.ofChange fnDependsWrong)

/-- 'laws.FnAffected': WHATEVER THE INPUT: true; the input reads as it did. -/
def fnAffectedSpec : ChangeSpec := { name := "fnAffected", fn := fun _ => fun
  | [d] => { results := [.lit (.bool true)], args := [d] }
  | _ => none }
def fnAffectedRow : OpenClaim := { program := "ytfjmoicellpnhaagreat", sum := "701a0de142196f14e30a1f6c33c880a20d4a5b5a5176fc1764f96eacf9dbcb67", func := "loop.example/g00510/laws.FnAffected", spec := "fnAffected", unfollowed := true, recurses := true, apart := false }
def FnAffectedSaid : Prop := fnAffectedRow.holds Tryz.pinned (OpenSpec.ofChange fnAffectedSpec)

/-- ITS FALSE NEIGHBOUR: 'it returns false'. Refute it at one input. -/
def fnAffectedWrong : ChangeSpec := { name := "fnAffected", fn := fun _ => fun
  | [d] => { results := [.lit (.bool false)], args := [d] }
  | _ => none }
def FnAffectedWrongFalsely : Prop := fnAffectedRow.holds Tryz.pinned (OpenSpec.ofChange fnAffectedWrong)

/-- 'laws.FnOrder': WHATEVER THE INPUT: true; the input reads as it did. -/
def fnOrderSpec : ChangeSpec := { name := "fnOrder", fn := fun _ => fun
  | [d] => { results := [.lit (.bool true)], args := [d] }
  | _ => none }
def fnOrderRow : OpenClaim := { program := "ytfjmoicellpnhaagreat", sum := "701a0de142196f14e30a1f6c33c880a20d4a5b5a5176fc1764f96eacf9dbcb67", func := "loop.example/g00510/laws.FnOrder", spec := "fnOrder", unfollowed := true, recurses := true, apart := false }
def FnOrderSaid : Prop := fnOrderRow.holds Tryz.pinned (OpenSpec.ofChange fnOrderSpec)

/-- ITS FALSE NEIGHBOUR: 'it returns false'. Refute it at one input. -/
def fnOrderWrong : ChangeSpec := { name := "fnOrder", fn := fun _ => fun
  | [d] => { results := [.lit (.bool false)], args := [d] }
  | _ => none }
def FnOrderWrongFalsely : Prop := fnOrderRow.holds Tryz.pinned (OpenSpec.ofChange fnOrderWrong)

/-- 'laws.FnIsOrder': WHATEVER THE INPUT: true; the input reads as it did. -/
def fnIsOrderSpec : ChangeSpec := { name := "fnIsOrder", fn := fun _ => fun
  | [d] => { results := [.lit (.bool true)], args := [d] }
  | _ => none }
def fnIsOrderRow : OpenClaim := { program := "ytfjmoicellpnhaagreat", sum := "701a0de142196f14e30a1f6c33c880a20d4a5b5a5176fc1764f96eacf9dbcb67", func := "loop.example/g00510/laws.FnIsOrder", spec := "fnIsOrder", unfollowed := true, recurses := true, apart := false }
def FnIsOrderSaid : Prop := fnIsOrderRow.holds Tryz.pinned (OpenSpec.ofChange fnIsOrderSpec)

/-- ITS FALSE NEIGHBOUR: 'it returns false'. Refute it at one input. -/
def fnIsOrderWrong : ChangeSpec := { name := "fnIsOrder", fn := fun _ => fun
  | [d] => { results := [.lit (.bool false)], args := [d] }
  | _ => none }
def FnIsOrderWrongFalsely : Prop := fnIsOrderRow.holds Tryz.pinned (OpenSpec.ofChange fnIsOrderWrong)

/- THE SECOND FORM. 'bulk': how many values and letters a reading holds, each counted each time it is reached (what is shared counts as often as it is met; a slice's spare places count too). A statement '..UptoSaid' is the law's where the arguments, and the package variables that the reading takes, are together of bulk at most 1048576: NARROWER than '..Said'. Prove '..Said' where nothing that the law and all that it calls make is longer than what came in: it says more and counts as full. Else prove '..UptoSaid'. A law counts once. -/
mutual
def uptoBulk {H : Type} : DataW H → Nat
  | .lit (.string bytes) => bytes.length + 1
  | .lit _ => 1
  | .nil => 1
  | .ptr d => uptoBulk d + 1
  | .slice elems spare => uptoBulkAll elems + uptoBulkAll spare + 1
  | .agg parts => uptoBulkAll parts + 1
  | .iface _ d => uptoBulk d + 1
  | .map entries => uptoBulkEntries entries + 1
  | .held _ => 1
def uptoBulkAll {H : Type} : List (DataW H) → Nat
  | [] => 0
  | d :: r => uptoBulk d + uptoBulkAll r
def uptoBulkEntries {H : Type} : List (Lit × DataW H) → Nat
  | [] => 0
  | x :: r => uptoBulkEntry x + uptoBulkEntries r
def uptoBulkEntry {H : Type} : Lit × DataW H → Nat
  | (.string bytes, d) => bytes.length + uptoBulk d + 1
  | (_, d) => uptoBulk d + 1
 end
def uptoSmall : (H : Type) → List (DataW H) → Bool := fun _ ds => decide (uptoBulkAll ds ≤ 1048576)
def OpenSpec.upto (s : _root_.Go.ChangeSpec) : _root_.Go.OpenSpec := { _root_.Go.OpenSpec.ofChange s with cond := some uptoSmall }

/-- 'laws.FnCycles', WHERE WHAT IT READS IS OF BULK AT MOST 1048576: true; the input reads as it did. -/
def fnCyclesUptoRow : OpenClaim := { program := "ytfjmoicellpnhaagreat", sum := "701a0de142196f14e30a1f6c33c880a20d4a5b5a5176fc1764f96eacf9dbcb67", func := "loop.example/g00510/laws.FnCycles", spec := "fnCycles", unfollowed := true, recurses := true, apart := false, narrowed := true }
def FnCyclesUptoSaid : Prop := fnCyclesUptoRow.holds Tryz.pinned (OpenSpec.upto fnCyclesSpec)

/-- 'laws.FnResolved', WHERE WHAT IT READS IS OF BULK AT MOST 1048576: true; the input reads as it did. -/
def fnResolvedUptoRow : OpenClaim := { program := "ytfjmoicellpnhaagreat", sum := "701a0de142196f14e30a1f6c33c880a20d4a5b5a5176fc1764f96eacf9dbcb67", func := "loop.example/g00510/laws.FnResolved", spec := "fnResolved", recurses := true, apart := false, narrowed := true }
def FnResolvedUptoSaid : Prop := fnResolvedUptoRow.holds Tryz.pinned (OpenSpec.upto fnResolvedSpec)

/-- 'laws.FnMissing', WHERE WHAT IT READS IS OF BULK AT MOST 1048576: true; the input reads as it did. -/
def fnMissingUptoRow : OpenClaim := { program := "ytfjmoicellpnhaagreat", sum := "701a0de142196f14e30a1f6c33c880a20d4a5b5a5176fc1764f96eacf9dbcb67", func := "loop.example/g00510/laws.FnMissing", spec := "fnMissing", unfollowed := true, recurses := true, apart := false, narrowed := true }
def FnMissingUptoSaid : Prop := fnMissingUptoRow.holds Tryz.pinned (OpenSpec.upto fnMissingSpec)

/-- 'laws.FnDepends', WHERE WHAT IT READS IS OF BULK AT MOST 1048576: true; the input reads as it did. -/
def fnDependsUptoRow : OpenClaim := { program := "ytfjmoicellpnhaagreat", sum := "701a0de142196f14e30a1f6c33c880a20d4a5b5a5176fc1764f96eacf9dbcb67", func := "loop.example/g00510/laws.FnDepends", spec := "fnDepends", unfollowed := true, recurses := true, apart := false, narrowed := true }
def FnDependsUptoSaid : Prop := fnDependsUptoRow.holds Tryz.pinned (OpenSpec.upto fnDependsSpec)

/-- 'laws.FnAffected', WHERE WHAT IT READS IS OF BULK AT MOST 1048576: true; the input reads as it did. -/
def fnAffectedUptoRow : OpenClaim := { program := "ytfjmoicellpnhaagreat", sum := "701a0de142196f14e30a1f6c33c880a20d4a5b5a5176fc1764f96eacf9dbcb67", func := "loop.example/g00510/laws.FnAffected", spec := "fnAffected", unfollowed := true, recurses := true, apart := false, narrowed := true }
def FnAffectedUptoSaid : Prop := fnAffectedUptoRow.holds Tryz.pinned (OpenSpec.upto fnAffectedSpec)

/-- 'laws.FnOrder', WHERE WHAT IT READS IS OF BULK AT MOST 1048576: true; the input reads as it did. -/
def fnOrderUptoRow : OpenClaim := { program := "ytfjmoicellpnhaagreat", sum := "701a0de142196f14e30a1f6c33c880a20d4a5b5a5176fc1764f96eacf9dbcb67", func := "loop.example/g00510/laws.FnOrder", spec := "fnOrder", unfollowed := true, recurses := true, apart := false, narrowed := true }
def FnOrderUptoSaid : Prop := fnOrderUptoRow.holds Tryz.pinned (OpenSpec.upto fnOrderSpec)

/-- 'laws.FnIsOrder', WHERE WHAT IT READS IS OF BULK AT MOST 1048576: true; the input reads as it did. -/
def fnIsOrderUptoRow : OpenClaim := { program := "ytfjmoicellpnhaagreat", sum := "701a0de142196f14e30a1f6c33c880a20d4a5b5a5176fc1764f96eacf9dbcb67", func := "loop.example/g00510/laws.FnIsOrder", spec := "fnIsOrder", unfollowed := true, recurses := true, apart := false, narrowed := true }
def FnIsOrderUptoSaid : Prop := fnIsOrderUptoRow.holds Tryz.pinned (OpenSpec.upto fnIsOrderSpec)

end Rows
end Go.Proofs.YtfjmoicellpnhaaGreat
