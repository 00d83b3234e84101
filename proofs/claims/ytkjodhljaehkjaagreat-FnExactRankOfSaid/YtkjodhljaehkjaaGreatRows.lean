/-
  NARROWER THAN 'FOR EVERY INPUT', by the rows' own cells (each row's printed sentence says how): FnExactOnCycle: loops · FnExactIsRunnable: loops · FnExactDirectUses: loops · FnExactIsRunOrder: loops · FnExactUsers: loops · FnExactRankOf: loops · FnExactAllUses: loops · FnExactAllUsers: loops · FnExactAffectedBy: loops · FnExactCycleThrough: loops · FnExactSmallestCycle: loops · FnExactCycleNames: loops.
  DERIVED. THE GIVEN ROWS OF THIS SEAT. 12 by the template 'for every input the law returns true; each argument reads behind the call as it read before'; 0 by the template 'total and deterministic' (their statements: YtkjodhljaehkjaaGreatTotals.lean).
  GIVEN WITH THE SEED: the statements are not yours to turn. If you find one false, say at which input.
  Laid BY PROGRAM, IN A SANDBOX (cutbox-rows.mjs): the forced cells as the released guide's own fill.sh prints them over the translation 6bbe5ca7c5bca5a2… (all of the seat's roots in one cut). By AI agents, Wed Nov 11 2026. No macro, syntax, notation, axiom, sorry.
-/
import Derived.Test.YtkjodhljaehkjaaGreatChecked
import GoSem.Claim
import GoSem.ClaimJoined
import GoSem.ClaimMapViews
import Derived.JoinedTies
import Derived.KernelRfl
namespace Go.Proofs.YtkjodhljaehkjaaGreat
/- THE CELL 'sum', in the pinned program and in every row, IS THE sha256 OF THE DUMP (.gsa) THAT YtkjodhljaehkjaaGreatProg.lean LOADS. Nothing in Lean hashes anything: it is a label: what it is worth is what the hold of that sum in a sandbox is worth. -/
noncomputable def Tryz.pinned : Pinned := { name := "ytkjodhljaehkjaagreat", sum := "6bbe5ca7c5bca5a2e7f4ee2fba0c09379ac83af8ec2113d0127f0614c37e3f52", checked := Tryz.checked }
namespace Rows
def none {H : Type} : Left H := { results := [], args := [] }

/-- 'laws.FnExactOnCycle': WHATEVER THE INPUT: true; the input reads as it did. -/
def fnExactOnCycleSpec : ChangeSpec := { name := "fnExactOnCycle", fn := fun _ => fun
  | [d1, d2] => { results := [.lit (.bool true)], args := [d1, d2] }
  | _ => none }
def fnExactOnCycleRow : OpenClaim := { program := "ytkjodhljaehkjaagreat", sum := "6bbe5ca7c5bca5a2e7f4ee2fba0c09379ac83af8ec2113d0127f0614c37e3f52", func := "loop.example/g00510/laws.FnExactOnCycle", spec := "fnExactOnCycle", unfollowed := true, recurses := true, loops := true, apart := false }
def FnExactOnCycleSaid : Prop := fnExactOnCycleRow.holds Tryz.pinned (OpenSpec.ofChange fnExactOnCycleSpec)

/-- ITS FALSE NEIGHBOUR: 'it returns false'. Refute it at one input. -/
def fnExactOnCycleWrong : ChangeSpec := { name := "fnExactOnCycle", fn := fun _ => fun
  | [d1, d2] => { results := [.lit (.bool false)], args := [d1, d2] }
  | _ => none }
def FnExactOnCycleWrongFalsely : Prop := fnExactOnCycleRow.holds Tryz.pinned (OpenSpec.ofChange fnExactOnCycleWrong)

/-- 'laws.FnExactIsRunnable': WHATEVER THE INPUT: true; the input reads as it did. -/
def fnExactIsRunnableSpec : ChangeSpec := { name := "fnExactIsRunnable", fn := fun _ => fun
  | [d1, d2] => { results := [.lit (.bool true)], args := [d1, d2] }
  | _ => none }
def fnExactIsRunnableRow : OpenClaim := { program := "ytkjodhljaehkjaagreat", sum := "6bbe5ca7c5bca5a2e7f4ee2fba0c09379ac83af8ec2113d0127f0614c37e3f52", func := "loop.example/g00510/laws.FnExactIsRunnable", spec := "fnExactIsRunnable", unfollowed := true, recurses := true, loops := true, apart := false }
def FnExactIsRunnableSaid : Prop := fnExactIsRunnableRow.holds Tryz.pinned (OpenSpec.ofChange fnExactIsRunnableSpec)

/-- ITS FALSE NEIGHBOUR: 'it returns false'. Refute it at one input. -/
def fnExactIsRunnableWrong : ChangeSpec := { name := "fnExactIsRunnable", fn := fun _ => fun
  | [d1, d2] => { results := [.lit (.bool false)], args := [d1, d2] }
  | _ => none }
def FnExactIsRunnableWrongFalsely : Prop := fnExactIsRunnableRow.holds Tryz.pinned (OpenSpec.ofChange fnExactIsRunnableWrong)

/-- 'laws.FnExactDirectUses': WHATEVER THE INPUT: true; the input reads as it did. -/
def fnExactDirectUsesSpec : ChangeSpec := { name := "fnExactDirectUses", fn := fun _ => fun
  | [d1, d2] => { results := [.lit (.bool true)], args := [d1, d2] }
  | _ => none }
def fnExactDirectUsesRow : OpenClaim := { program := "ytkjodhljaehkjaagreat", sum := "6bbe5ca7c5bca5a2e7f4ee2fba0c09379ac83af8ec2113d0127f0614c37e3f52", func := "loop.example/g00510/laws.FnExactDirectUses", spec := "fnExactDirectUses", unfollowed := true, recurses := true, loops := true, apart := false }
def FnExactDirectUsesSaid : Prop := fnExactDirectUsesRow.holds Tryz.pinned (OpenSpec.ofChange fnExactDirectUsesSpec)

/-- ITS FALSE NEIGHBOUR: 'it returns false'. Refute it at one input. -/
def fnExactDirectUsesWrong : ChangeSpec := { name := "fnExactDirectUses", fn := fun _ => fun
  | [d1, d2] => { results := [.lit (.bool false)], args := [d1, d2] }
  | _ => none }
def FnExactDirectUsesWrongFalsely : Prop := fnExactDirectUsesRow.holds Tryz.pinned (OpenSpec.ofChange fnExactDirectUsesWrong)

/-- 'laws.FnExactIsRunOrder': WHATEVER THE INPUT: true; the input reads as it did. -/
def fnExactIsRunOrderSpec : ChangeSpec := { name := "fnExactIsRunOrder", fn := fun _ => fun
  | [d1, d2] => { results := [.lit (.bool true)], args := [d1, d2] }
  | _ => none }
def fnExactIsRunOrderRow : OpenClaim := { program := "ytkjodhljaehkjaagreat", sum := "6bbe5ca7c5bca5a2e7f4ee2fba0c09379ac83af8ec2113d0127f0614c37e3f52", func := "loop.example/g00510/laws.FnExactIsRunOrder", spec := "fnExactIsRunOrder", unfollowed := true, recurses := true, loops := true, apart := false }
def FnExactIsRunOrderSaid : Prop := fnExactIsRunOrderRow.holds Tryz.pinned (OpenSpec.ofChange fnExactIsRunOrderSpec)

/-- ITS FALSE NEIGHBOUR: 'it returns false'. Refute it at one input. -/
def fnExactIsRunOrderWrong : ChangeSpec := { name := "fnExactIsRunOrder", fn := fun _ => fun
  | [d1, d2] => { results := [.lit (.bool false)], args := [d1, d2] }
  | _ => none }
def FnExactIsRunOrderWrongFalsely : Prop := fnExactIsRunOrderRow.holds Tryz.pinned (OpenSpec.ofChange fnExactIsRunOrderWrong)

/-- 'laws.FnExactUsers': WHATEVER THE INPUT: true; the input reads as it did. -/
def fnExactUsersSpec : ChangeSpec := { name := "fnExactUsers", fn := fun _ => fun
  | [d1, d2] => { results := [.lit (.bool true)], args := [d1, d2] }
  | _ => none }
def fnExactUsersRow : OpenClaim := { program := "ytkjodhljaehkjaagreat", sum := "6bbe5ca7c5bca5a2e7f4ee2fba0c09379ac83af8ec2113d0127f0614c37e3f52", func := "loop.example/g00510/laws.FnExactUsers", spec := "fnExactUsers", unfollowed := true, recurses := true, loops := true, apart := false }
def FnExactUsersSaid : Prop := fnExactUsersRow.holds Tryz.pinned (OpenSpec.ofChange fnExactUsersSpec)

/-- ITS FALSE NEIGHBOUR: 'it returns false'. Refute it at one input. -/
def fnExactUsersWrong : ChangeSpec := { name := "fnExactUsers", fn := fun _ => fun
  | [d1, d2] => { results := [.lit (.bool false)], args := [d1, d2] }
  | _ => none }
def FnExactUsersWrongFalsely : Prop := fnExactUsersRow.holds Tryz.pinned (OpenSpec.ofChange fnExactUsersWrong)

/-- 'laws.FnExactRankOf': WHATEVER THE INPUT: true; the input reads as it did. -/
def fnExactRankOfSpec : ChangeSpec := { name := "fnExactRankOf", fn := fun _ => fun
  | [d1, d2] => { results := [.lit (.bool true)], args := [d1, d2] }
  | _ => none }
def fnExactRankOfRow : OpenClaim := { program := "ytkjodhljaehkjaagreat", sum := "6bbe5ca7c5bca5a2e7f4ee2fba0c09379ac83af8ec2113d0127f0614c37e3f52", func := "loop.example/g00510/laws.FnExactRankOf", spec := "fnExactRankOf", unfollowed := true, recurses := true, loops := true, apart := false }
def FnExactRankOfSaid : Prop := fnExactRankOfRow.holds Tryz.pinned (OpenSpec.ofChange fnExactRankOfSpec)

/-- ITS FALSE NEIGHBOUR: 'it returns false'. Refute it at one input. -/
def fnExactRankOfWrong : ChangeSpec := { name := "fnExactRankOf", fn := fun _ => fun
  | [d1, d2] => { results := [.lit (.bool false)], args := [d1, d2] }
  | _ => none }
def FnExactRankOfWrongFalsely : Prop := fnExactRankOfRow.holds Tryz.pinned (OpenSpec.ofChange fnExactRankOfWrong)

/-- 'laws.FnExactAllUses': WHATEVER THE INPUT: true; the input reads as it did. -/
def fnExactAllUsesSpec : ChangeSpec := { name := "fnExactAllUses", fn := fun _ => fun
  | [d1, d2] => { results := [.lit (.bool true)], args := [d1, d2] }
  | _ => none }
def fnExactAllUsesRow : OpenClaim := { program := "ytkjodhljaehkjaagreat", sum := "6bbe5ca7c5bca5a2e7f4ee2fba0c09379ac83af8ec2113d0127f0614c37e3f52", func := "loop.example/g00510/laws.FnExactAllUses", spec := "fnExactAllUses", unfollowed := true, recurses := true, loops := true, apart := false }
def FnExactAllUsesSaid : Prop := fnExactAllUsesRow.holds Tryz.pinned (OpenSpec.ofChange fnExactAllUsesSpec)

/-- ITS FALSE NEIGHBOUR: 'it returns false'. Refute it at one input. -/
def fnExactAllUsesWrong : ChangeSpec := { name := "fnExactAllUses", fn := fun _ => fun
  | [d1, d2] => { results := [.lit (.bool false)], args := [d1, d2] }
  | _ => none }
def FnExactAllUsesWrongFalsely : Prop := fnExactAllUsesRow.holds Tryz.pinned (OpenSpec.ofChange fnExactAllUsesWrong)

/-- 'laws.FnExactAllUsers': WHATEVER THE INPUT: true; the input reads as it did. -/
def fnExactAllUsersSpec : ChangeSpec := { name := "fnExactAllUsers", fn := fun _ => fun
  | [d1, d2] => { results := [.lit (.bool true)], args := [d1, d2] }
  | _ => none }
def fnExactAllUsersRow : OpenClaim := { program := "ytkjodhljaehkjaagreat", sum := "6bbe5ca7c5bca5a2e7f4ee2fba0c09379ac83af8ec2113d0127f0614c37e3f52", func := "loop.example/g00510/laws.FnExactAllUsers", spec := "fnExactAllUsers", unfollowed := true, recurses := true, loops := true, apart := false }
def FnExactAllUsersSaid : Prop := fnExactAllUsersRow.holds Tryz.pinned (OpenSpec.ofChange fnExactAllUsersSpec)

/-- ITS FALSE NEIGHBOUR: 'it returns false'. Refute it at one input. -/
def fnExactAllUsersWrong : ChangeSpec := { name := "fnExactAllUsers", fn := fun _ => fun
  | [d1, d2] => { results := [.lit (.bool false)], args := [d1, d2] }
  | _ => none }
def FnExactAllUsersWrongFalsely : Prop := fnExactAllUsersRow.holds Tryz.pinned (OpenSpec.ofChange fnExactAllUsersWrong)

/-- 'laws.FnExactAffectedBy': WHATEVER THE INPUT: true; the input reads as it did. -/
def fnExactAffectedBySpec : ChangeSpec := { name := "fnExactAffectedBy", fn := fun _ => fun
  | [d1, d2] => { results := [.lit (.bool true)], args := [d1, d2] }
  | _ => none }
def fnExactAffectedByRow : OpenClaim := { program := "ytkjodhljaehkjaagreat", sum := "6bbe5ca7c5bca5a2e7f4ee2fba0c09379ac83af8ec2113d0127f0614c37e3f52", func := "loop.example/g00510/laws.FnExactAffectedBy", spec := "fnExactAffectedBy", unfollowed := true, recurses := true, loops := true, apart := false }
def FnExactAffectedBySaid : Prop := fnExactAffectedByRow.holds Tryz.pinned (OpenSpec.ofChange fnExactAffectedBySpec)

/-- ITS FALSE NEIGHBOUR: 'it returns false'. Refute it at one input. -/
def fnExactAffectedByWrong : ChangeSpec := { name := "fnExactAffectedBy", fn := fun _ => fun
  | [d1, d2] => { results := [.lit (.bool false)], args := [d1, d2] }
  | _ => none }
def FnExactAffectedByWrongFalsely : Prop := fnExactAffectedByRow.holds Tryz.pinned (OpenSpec.ofChange fnExactAffectedByWrong)

/-- 'laws.FnExactCycleThrough': WHATEVER THE INPUT: true; the input reads as it did. -/
def fnExactCycleThroughSpec : ChangeSpec := { name := "fnExactCycleThrough", fn := fun _ => fun
  | [d1, d2] => { results := [.lit (.bool true)], args := [d1, d2] }
  | _ => none }
def fnExactCycleThroughRow : OpenClaim := { program := "ytkjodhljaehkjaagreat", sum := "6bbe5ca7c5bca5a2e7f4ee2fba0c09379ac83af8ec2113d0127f0614c37e3f52", func := "loop.example/g00510/laws.FnExactCycleThrough", spec := "fnExactCycleThrough", unfollowed := true, recurses := true, loops := true, apart := false }
def FnExactCycleThroughSaid : Prop := fnExactCycleThroughRow.holds Tryz.pinned (OpenSpec.ofChange fnExactCycleThroughSpec)

/-- ITS FALSE NEIGHBOUR: 'it returns false'. Refute it at one input. -/
def fnExactCycleThroughWrong : ChangeSpec := { name := "fnExactCycleThrough", fn := fun _ => fun
  | [d1, d2] => { results := [.lit (.bool false)], args := [d1, d2] }
  | _ => none }
def FnExactCycleThroughWrongFalsely : Prop := fnExactCycleThroughRow.holds Tryz.pinned (OpenSpec.ofChange fnExactCycleThroughWrong)

/-- 'laws.FnExactSmallestCycle': WHATEVER THE INPUT: true; the input reads as it did. -/
def fnExactSmallestCycleSpec : ChangeSpec := { name := "fnExactSmallestCycle", fn := fun _ => fun
  | [d] => { results := [.lit (.bool true)], args := [d] }
  | _ => none }
def fnExactSmallestCycleRow : OpenClaim := { program := "ytkjodhljaehkjaagreat", sum := "6bbe5ca7c5bca5a2e7f4ee2fba0c09379ac83af8ec2113d0127f0614c37e3f52", func := "loop.example/g00510/laws.FnExactSmallestCycle", spec := "fnExactSmallestCycle", unfollowed := true, recurses := true, loops := true, apart := false }
def FnExactSmallestCycleSaid : Prop := fnExactSmallestCycleRow.holds Tryz.pinned (OpenSpec.ofChange fnExactSmallestCycleSpec)

/-- ITS FALSE NEIGHBOUR: 'it returns false'. Refute it at one input. -/
def fnExactSmallestCycleWrong : ChangeSpec := { name := "fnExactSmallestCycle", fn := fun _ => fun
  | [d] => { results := [.lit (.bool false)], args := [d] }
  | _ => none }
def FnExactSmallestCycleWrongFalsely : Prop := fnExactSmallestCycleRow.holds Tryz.pinned (OpenSpec.ofChange fnExactSmallestCycleWrong)

/-- 'laws.FnExactCycleNames': WHATEVER THE INPUT: true; the input reads as it did. -/
def fnExactCycleNamesSpec : ChangeSpec := { name := "fnExactCycleNames", fn := fun _ => fun
  | [d] => { results := [.lit (.bool true)], args := [d] }
  | _ => none }
def fnExactCycleNamesRow : OpenClaim := { program := "ytkjodhljaehkjaagreat", sum := "6bbe5ca7c5bca5a2e7f4ee2fba0c09379ac83af8ec2113d0127f0614c37e3f52", func := "loop.example/g00510/laws.FnExactCycleNames", spec := "fnExactCycleNames", unfollowed := true, recurses := true, loops := true, apart := false }
def FnExactCycleNamesSaid : Prop := fnExactCycleNamesRow.holds Tryz.pinned (OpenSpec.ofChange fnExactCycleNamesSpec)

/-- ITS FALSE NEIGHBOUR: 'it returns false'. Refute it at one input. -/
def fnExactCycleNamesWrong : ChangeSpec := { name := "fnExactCycleNames", fn := fun _ => fun
  | [d] => { results := [.lit (.bool false)], args := [d] }
  | _ => none }
def FnExactCycleNamesWrongFalsely : Prop := fnExactCycleNamesRow.holds Tryz.pinned (OpenSpec.ofChange fnExactCycleNamesWrong)

/- THE SECOND FORM. 'bulk': how many values and letters a reading holds, each counted each time it is reached (what is shared counts as often as it is met; a slice's spare places count too). A statement '..UptoSaid' is the law's where the arguments, and the package variables that the reading takes, are together of bulk at most 1048576: NARROWER than '..Said'. Prove '..Said' where nothing that the law and all that it calls make is longer than what came in: it says more and counts as full. Else prove '..UptoSaid'. A law counts once. -/
mutual
def uptoBulk {H : Type} : DataW H → Nat
  | .lit (.string bytes) => bytes.length + 1
  | .lit _ => 1
  | .nil => 1
  | .ptr d => uptoBulk d + 1
  | .slice elems spare => uptoBulkAll elems + uptoBulkAll spare + 1
  | .agg parts => uptoBulkAll parts + 1
  | .iface _ d => uptoBulk d + 1
  | .map entries => uptoBulkEntries entries + 1
  | .held _ => 1
def uptoBulkAll {H : Type} : List (DataW H) → Nat
  | [] => 0
  | d :: r => uptoBulk d + uptoBulkAll r
def uptoBulkEntries {H : Type} : List (Lit × DataW H) → Nat
  | [] => 0
  | x :: r => uptoBulkEntry x + uptoBulkEntries r
def uptoBulkEntry {H : Type} : Lit × DataW H → Nat
  | (.string bytes, d) => bytes.length + uptoBulk d + 1
  | (_, d) => uptoBulk d + 1
 end
def uptoSmall : (H : Type) → List (DataW H) → Bool := fun _ ds => decide (uptoBulkAll ds ≤ 1048576)
def OpenSpec.upto (s : _root_.Go.ChangeSpec) : _root_.Go.OpenSpec := { _root_.Go.OpenSpec.ofChange s with cond := some uptoSmall }

/-- 'laws.FnExactOnCycle', WHERE WHAT IT READS IS OF BULK AT MOST 1048576: true; the input reads as it did. -/
def fnExactOnCycleUptoRow : OpenClaim := { program := "ytkjodhljaehkjaagreat", sum := "6bbe5ca7c5bca5a2e7f4ee2fba0c09379ac83af8ec2113d0127f0614c37e3f52", func := "loop.example/g00510/laws.FnExactOnCycle", spec := "fnExactOnCycle", unfollowed := true, recurses := true, loops := true, apart := false, narrowed := true }
def FnExactOnCycleUptoSaid : Prop := fnExactOnCycleUptoRow.holds Tryz.pinned (OpenSpec.upto fnExactOnCycleSpec)

/-- 'laws.FnExactIsRunnable', WHERE WHAT IT READS IS OF BULK AT MOST 1048576: true; the input reads as it did. -/
def fnExactIsRunnableUptoRow : OpenClaim := { program := "ytkjodhljaehkjaagreat", sum := "6bbe5ca7c5bca5a2e7f4ee2fba0c09379ac83af8ec2113d0127f0614c37e3f52", func := "loop.example/g00510/laws.FnExactIsRunnable", spec := "fnExactIsRunnable", unfollowed := true, recurses := true, loops := true, apart := false, narrowed := true }
def FnExactIsRunnableUptoSaid : Prop := fnExactIsRunnableUptoRow.holds Tryz.pinned (OpenSpec.upto fnExactIsRunnableSpec)

/-- 'laws.FnExactDirectUses', WHERE WHAT IT READS IS OF BULK AT MOST 1048576: true; the input reads as it did. -/
def fnExactDirectUsesUptoRow : OpenClaim := { program := "ytkjodhljaehkjaagreat", sum := "6bbe5ca7c5bca5a2e7f4ee2fba0c09379ac83af8ec2113d0127f0614c37e3f52", func := "loop.example/g00510/laws.FnExactDirectUses", spec := "fnExactDirectUses", unfollowed := true, recurses := true, loops := true, apart := false, narrowed := true }
def FnExactDirectUsesUptoSaid : Prop := fnExactDirectUsesUptoRow.holds Tryz.pinned (OpenSpec.upto fnExactDirectUsesSpec)

/-- 'laws.FnExactIsRunOrder', WHERE WHAT IT READS IS OF BULK AT MOST 1048576: true; the input reads as it did. -/
def fnExactIsRunOrderUptoRow : OpenClaim := { program := "ytkjodhljaehkjaagreat", sum := "6bbe5ca7c5bca5a2e7f4ee2fba0c09379ac83af8ec2113d0127f0614c37e3f52", func := "loop.example/g00510/laws.FnExactIsRunOrder", spec := "fnExactIsRunOrder", unfollowed := true, recurses := true, loops := true, apart := false, narrowed := true }
def FnExactIsRunOrderUptoSaid : Prop := fnExactIsRunOrderUptoRow.holds Tryz.pinned (OpenSpec.upto fnExactIsRunOrderSpec)

/-- 'laws.FnExactUsers', WHERE WHAT IT READS IS OF BULK AT MOST 1048576: true; the input reads as it did. -/
def fnExactUsersUptoRow : OpenClaim := { program := "ytkjodhljaehkjaagreat", sum := "6bbe5ca7c5bca5a2e7f4ee2fba0c09379ac83af8ec2113d0127f0614c37e3f52", func := "loop.example/g00510/laws.FnExactUsers", spec := "fnExactUsers", unfollowed := true, recurses := true, loops := true, apart := false, narrowed := true }
def FnExactUsersUptoSaid : Prop := fnExactUsersUptoRow.holds Tryz.pinned (OpenSpec.upto fnExactUsersSpec)

/-- 'laws.FnExactRankOf', WHERE WHAT IT READS IS OF BULK AT MOST 1048576: true; the input reads as it did. -/
def fnExactRankOfUptoRow : OpenClaim := { program := "ytkjodhljaehkjaagreat", sum := "6bbe5ca7c5bca5a2e7f4ee2fba0c09379ac83af8ec2113d0127f0614c37e3f52", func := "loop.example/g00510/laws.FnExactRankOf", spec := "fnExactRankOf", unfollowed := true, recurses := true, loops := true, apart := false, narrowed := true }
def FnExactRankOfUptoSaid : Prop := fnExactRankOfUptoRow.holds Tryz.pinned (OpenSpec.upto fnExactRankOfSpec)

/-- 'laws.FnExactAllUses', WHERE WHAT IT READS IS OF BULK AT MOST 1048576: true; the input reads as it did. -/
def fnExactAllUsesUptoRow : OpenClaim := { program := "ytkjodhljaehkjaagreat", sum := "6bbe5ca7c5bca5a2e7f4ee2fba0c09379ac83af8ec2113d0127f0614c37e3f52", func := "loop.example/g00510/laws.FnExactAllUses", spec := "fnExactAllUses", unfollowed := true, recurses := true, loops := true, apart := false, narrowed := true }
def FnExactAllUsesUptoSaid : Prop := fnExactAllUsesUptoRow.holds Tryz.pinned (OpenSpec.upto fnExactAllUsesSpec)

/-- 'laws.FnExactAllUsers', WHERE WHAT IT READS IS OF BULK AT MOST 1048576: true; the input reads as it did. -/
def fnExactAllUsersUptoRow : OpenClaim := { program := "ytkjodhljaehkjaagreat", sum := "6bbe5ca7c5bca5a2e7f4ee2fba0c09379ac83af8ec2113d0127f0614c37e3f52", func := "loop.example/g00510/laws.FnExactAllUsers", spec := "fnExactAllUsers", unfollowed := true, recurses := true, loops := true, apart := false, narrowed := true }
def FnExactAllUsersUptoSaid : Prop := fnExactAllUsersUptoRow.holds Tryz.pinned (OpenSpec.upto fnExactAllUsersSpec)

/-- 'laws.FnExactAffectedBy', WHERE WHAT IT READS IS OF BULK AT MOST 1048576: true; the input reads as it did. -/
def fnExactAffectedByUptoRow : OpenClaim := { program := "ytkjodhljaehkjaagreat", sum := "6bbe5ca7c5bca5a2e7f4ee2fba0c09379ac83af8ec2113d0127f0614c37e3f52", func := "loop.example/g00510/laws.FnExactAffectedBy", spec := "fnExactAffectedBy", unfollowed := true, recurses := true, loops := true, apart := false, narrowed := true }
def FnExactAffectedByUptoSaid : Prop := fnExactAffectedByUptoRow.holds Tryz.pinned (OpenSpec.upto fnExactAffectedBySpec)

/-- 'laws.FnExactCycleThrough', WHERE WHAT IT READS IS OF BULK AT MOST 1048576: true; the input reads as it did. -/
def fnExactCycleThroughUptoRow : OpenClaim := { program := "ytkjodhljaehkjaagreat", sum := "6bbe5ca7c5bca5a2e7f4ee2fba0c09379ac83af8ec2113d0127f0614c37e3f52", func := "loop.example/g00510/laws.FnExactCycleThrough", spec := "fnExactCycleThrough", unfollowed := true, recurses := true, loops := true, apart := false, narrowed := true }
def FnExactCycleThroughUptoSaid : Prop := fnExactCycleThroughUptoRow.holds Tryz.pinned (OpenSpec.upto fnExactCycleThroughSpec)

/-- 'laws.FnExactSmallestCycle', WHERE WHAT IT READS IS OF BULK AT MOST 1048576: true; the input reads as it did. -/
def fnExactSmallestCycleUptoRow : OpenClaim := { program := "ytkjodhljaehkjaagreat", sum := "6bbe5ca7c5bca5a2e7f4ee2fba0c09379ac83af8ec2113d0127f0614c37e3f52", func := "loop.example/g00510/laws.FnExactSmallestCycle", spec := "fnExactSmallestCycle", unfollowed := true, recurses := true, loops := true, apart := false, narrowed := true }
def FnExactSmallestCycleUptoSaid : Prop := fnExactSmallestCycleUptoRow.holds Tryz.pinned (OpenSpec.upto fnExactSmallestCycleSpec)

/-- 'laws.FnExactCycleNames', WHERE WHAT IT READS IS OF BULK AT MOST 1048576: true; the input reads as it did. -/
def fnExactCycleNamesUptoRow : OpenClaim := { program := "ytkjodhljaehkjaagreat", sum := "6bbe5ca7c5bca5a2e7f4ee2fba0c09379ac83af8ec2113d0127f0614c37e3f52", func := "loop.example/g00510/laws.FnExactCycleNames", spec := "fnExactCycleNames", unfollowed := true, recurses := true, loops := true, apart := false, narrowed := true }
def FnExactCycleNamesUptoSaid : Prop := fnExactCycleNamesUptoRow.holds Tryz.pinned (OpenSpec.upto fnExactCycleNamesSpec)

end Rows
end Go.Proofs.YtkjodhljaehkjaaGreat
