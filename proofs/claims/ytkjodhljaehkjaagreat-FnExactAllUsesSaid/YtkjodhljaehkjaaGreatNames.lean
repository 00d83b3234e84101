/-
  Names, printable texts, ranges: the small functions of both packages, each with what it computes.
-/
import Derived.Test.YtkjodhljaehkjaaGreatTypes
import Derived.Test.YtkjodhljaehkjaaGreatProg
namespace Go.Proofs.YtkjodhljaehkjaaGreat
open Go.RowKit
set_option linter.unusedSimpArgs false
set_option linter.unusedVariables false

def inR (n lo hi : Int) : Bool := decide (lo ≤ n) && decide (n ≤ hi)
/-- A call that only draws. -/
def RetQ (v : Value) (w : World) (e : Ending) (w' : World) : Prop := e = .returned v ∧ w = w'
def RetB (v : Value) (w : World) (e : Ending) (w' : World) : Prop := e = .returned v ∧ Below w.heap.size w w'

theorem l1In_any (n lo hi : Int) (w : World) : Calls Tryz.prog 55 #[.int .i64 n, .int .i64 lo, .int .i64 hi] w (RetQ (.bool (inR n lo hi)) w) := by
  by_cases h1 : lo ≤ n
  · by_cases h2 : n ≤ hi
    · go_enter Tryz.func55, Tryz.ntmps55
      go_wp2
      go_ret
      exact ⟨by simp [inR, h1, h2], rfl⟩
    · have h3 : decide (n ≤ hi) = false := by simpa using h2
      go_enter Tryz.func55, Tryz.ntmps55
      go_wp2
      go_ret
      exact ⟨by simp [inR, h1, h2], rfl⟩
  · have h3 : decide (lo ≤ n) = false := by simpa using h1
    go_enter Tryz.func55, Tryz.ntmps55
    go_wp2
    go_ret
    exact ⟨congrArg (fun b => Ending.returned (.bool b)) (by unfold inR; rw [h3]; rfl), rfl⟩

def okPr (c : UInt8) : Bool := decide (32 ≤ (c.toNat : Int)) && decide ((c.toNat : Int) ≤ 126)
def printable (s : ByteArray) : Bool := s.data.toList.all okPr && decide ((s.size : Int) ≤ 120)
theorem all_of {p : UInt8 → Bool} {s : ByteArray} (h : ∀ j (hj : j < s.size), p s[j] = true) : s.data.toList.all p = true := by
  rw [List.all_eq_true]
  intro c hc
  obtain ⟨i, hi, rfl⟩ := List.mem_iff_getElem.1 hc
  exact h i (by simpa using hi)
theorem not_all {p : UInt8 → Bool} {s : ByteArray} {j : Nat} (hj : j < s.size) (h : p s[j] = false) : s.data.toList.all p = false := by
  rw [List.all_eq_false]
  exact ⟨s[j], List.mem_iff_getElem.2 ⟨j, by simpa using hj, rfl⟩, by simp [h]⟩










theorem ilt (a b : Int) : a < b ∨ b ≤ a := by omega
def isLet (c : UInt8) : Bool := decide (97 ≤ (c.toNat : Int)) && decide ((c.toNat : Int) ≤ 122)
def isDig (c : UInt8) : Bool := decide (48 ≤ (c.toNat : Int)) && decide ((c.toNat : Int) ≤ 57)
def okWd (j : Nat) (c : UInt8) : Bool := isLet c || (decide (0 < j) && isDig c)
/-- The letters of a word: lower-case letters and digits, a letter first. -/
def shapeB (s : ByteArray) : Bool := decide (0 < s.size) && (List.range s.size).all fun j => okWd j (s.data.toList.getD j 0)
def wordB (s : ByteArray) : Bool := shapeB s && decide ((s.size : Int) ≤ 8)
theorem getD_get (s : ByteArray) (j : Nat) (h : j < s.size) : s.data.toList.getD j 0 = s[j] := by
  rw [List.getD_eq_getElem?_getD, List.getElem?_eq_getElem (by simpa using h)]
  rfl
theorem shapeB_false {s : ByteArray} {j : Nat} (hj : j < s.size) (h : okWd j s[j] = false) : shapeB s = false := by
  unfold shapeB
  rw [Bool.and_eq_false_iff]
  refine Or.inr (List.all_eq_false.2 ⟨j, List.mem_range.2 hj, ?_⟩)
  rw [getD_get s j hj, h]
  decide
theorem shapeB_true {s : ByteArray} (h : ∀ j (hj : j < s.size), okWd j s[j] = true) : shapeB s = decide (0 < (s.size : Int)) := by
  unfold shapeB
  rw [List.all_eq_true.2 (fun j hj => by rw [getD_get s j (List.mem_range.1 hj)]; exact h j _), Bool.and_true]
  simp
theorem wordB_false {s : ByteArray} {j : Nat} (hj : j < s.size) (h : okWd j s[j] = false) : wordB s = false := by
  unfold wordB
  rw [shapeB_false hj h]
  rfl
theorem wordB_true {s : ByteArray} (h : ∀ j (hj : j < s.size), okWd j s[j] = true) : wordB s = inR s.size 1 8 := by
  unfold wordB inR
  rw [shapeB_true h]
  congr 1

end Go.Proofs.YtkjodhljaehkjaaGreat
