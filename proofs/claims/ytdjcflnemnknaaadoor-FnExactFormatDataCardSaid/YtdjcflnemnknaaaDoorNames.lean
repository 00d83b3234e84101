/-
  Names, printable texts, ranges: the small functions of both packages, each with what it computes.
-/
import Derived.Test.YtdjcflnemnknaaaDoorTypes
import Derived.Test.YtdjcflnemnknaaaDoorProg
namespace Go.Proofs.YtdjcflnemnknaaaDoor
open Go.RowKit
set_option linter.unusedSimpArgs false
set_option linter.unusedVariables false

def inR (n lo hi : Int) : Bool := decide (lo ≤ n) && decide (n ≤ hi)
/-- A call that only draws. -/
def RetQ (v : Value) (w : World) (e : Ending) (w' : World) : Prop := e = .returned v ∧ w = w'
def RetB (v : Value) (w : World) (e : Ending) (w' : World) : Prop := e = .returned v ∧ Below w.heap.size w w'

theorem within_any (n lo hi : Int) (w : World) : Calls Tryd.prog 71 #[.int .i64 n, .int .i64 lo, .int .i64 hi] w (RetQ (.bool (inR n lo hi)) w) := by
  by_cases h1 : lo ≤ n
  · by_cases h2 : n ≤ hi
    · go_enter Tryd.func71, Tryd.ntmps71
      go_wp2
      go_ret
      exact ⟨by simp [inR, h1, h2], rfl⟩
    · have h3 : decide (n ≤ hi) = false := by simpa using h2
      go_enter Tryd.func71, Tryd.ntmps71
      go_wp2
      go_ret
      exact ⟨by simp [inR, h1, h2], rfl⟩
  · have h3 : decide (lo ≤ n) = false := by simpa using h1
    go_enter Tryd.func71, Tryd.ntmps71
    go_wp2
    go_ret
    exact ⟨congrArg (fun b => Ending.returned (.bool b)) (by unfold inR; rw [h3]; rfl), rfl⟩

theorem l1In_any (n lo hi : Int) (w : World) : Calls Tryd.prog 68 #[.int .i64 n, .int .i64 lo, .int .i64 hi] w (RetQ (.bool (inR n lo hi)) w) := by
  by_cases h1 : lo ≤ n
  · by_cases h2 : n ≤ hi
    · go_enter Tryd.func68, Tryd.ntmps68
      go_wp2
      go_ret
      exact ⟨by simp [inR, h1, h2], rfl⟩
    · have h3 : decide (n ≤ hi) = false := by simpa using h2
      go_enter Tryd.func68, Tryd.ntmps68
      go_wp2
      go_ret
      exact ⟨by simp [inR, h1, h2], rfl⟩
  · have h3 : decide (lo ≤ n) = false := by simpa using h1
    go_enter Tryd.func68, Tryd.ntmps68
    go_wp2
    go_ret
    exact ⟨congrArg (fun b => Ending.returned (.bool b)) (by unfold inR; rw [h3]; rfl), rfl⟩

def okPr (c : UInt8) : Bool := decide (32 ≤ (c.toNat : Int)) && decide ((c.toNat : Int) ≤ 126)
def printable (s : ByteArray) : Bool := s.data.toList.all okPr && decide ((s.size : Int) ≤ 120)
theorem all_of {p : UInt8 → Bool} {s : ByteArray} (h : ∀ j (hj : j < s.size), p s[j] = true) : s.data.toList.all p = true := by
  rw [List.all_eq_true]
  intro c hc
  obtain ⟨i, hi, rfl⟩ := List.mem_iff_getElem.1 hc
  exact h i (by simpa using hi)
theorem not_all {p : UInt8 → Bool} {s : ByteArray} {j : Nat} (hj : j < s.size) (h : p s[j] = false) : s.data.toList.all p = false := by
  rw [List.all_eq_false]
  exact ⟨s[j], List.mem_iff_getElem.2 ⟨j, by simpa using hj, rfl⟩, by simp [h]⟩










theorem isPrintable_impl (s : ByteArray) (hs : s.size ≤ 9223372036854775807) (w : World) : Calls Tryd.prog 72 #[.string s] w (RetQ (.bool (printable s)) w) := by
  go_enter Tryd.func72, Tryd.ntmps72
  go_wp2
  go_loop [3] (fun i => ∃ k : Nat, k ≤ s.size ∧ i = .int .i64 k ∧ ∀ j (hj : j < s.size), j < k → okPr s[j] = true) (fun i => s.size - (intOf i).toNat)
  case atStart => exact ⟨0, Nat.zero_le _, rfl, fun j hj h => absurd h (by omega)⟩
  case round =>
    obtain ⟨k, hk, rfl, hall⟩ := hrel
    have hall' := Lib.hid hall
    clear hall
    by_cases hlt : k < s.size
    · by_cases h1 : (s[k].toNat : Int) < 32
      · have hf := Lib.hid (show printable s = false by
          unfold printable; rw [not_all hlt (by unfold okPr; simp; omega)]; rfl)
        go_wp2
        go_ret
        exact ⟨ret_bool hf.out.symm, rfl⟩
      · by_cases h2 : 126 < (s[k].toNat : Int)
        · have hf := Lib.hid (show printable s = false by
            unfold printable; rw [not_all hlt (by unfold okPr; simp; omega)]; rfl)
          go_wp2
          go_ret
          exact ⟨ret_bool hf.out.symm, rfl⟩
        · have hf := Lib.hid (show okPr s[k] = true by unfold okPr; simp; omega)
          go_wp2
          go_round
          case rel => exact ⟨k + 1, by omega, by go_num, fun j hj h => by
            by_cases e : j = k
            · subst e; exact hf.out
            · exact hall'.out j hj (by omega)⟩
          case measure => (simp [intOf] <;> omega)
    · have hf := Lib.hid (show printable s = decide ((s.size : Int) ≤ 120) by
        unfold printable; rw [all_of (fun j hj => hall'.out j hj (by omega))]; rfl)
      go_wp2
      go_ret
      exact ⟨ret_bool hf.out.symm, rfl⟩

theorem isPrintable_spec (s : ByteArray) (hs : s.size ≤ 9223372036854775807) (w : World) : Calls Tryd.prog 69 #[.string s] w (RetQ (.bool (printable s)) w) := by
  go_enter Tryd.func69, Tryd.ntmps69
  go_wp2
  go_loop [3] (fun i => ∃ k : Nat, k ≤ s.size ∧ i = .int .i64 k ∧ ∀ j (hj : j < s.size), j < k → okPr s[j] = true) (fun i => s.size - (intOf i).toNat)
  case atStart => exact ⟨0, Nat.zero_le _, rfl, fun j hj h => absurd h (by omega)⟩
  case round =>
    obtain ⟨k, hk, rfl, hall⟩ := hrel
    have hall' := Lib.hid hall
    clear hall
    by_cases hlt : k < s.size
    · by_cases h1 : (s[k].toNat : Int) < 32
      · have hf := Lib.hid (show printable s = false by
          unfold printable; rw [not_all hlt (by unfold okPr; simp; omega)]; rfl)
        go_wp2
        go_ret
        exact ⟨ret_bool hf.out.symm, rfl⟩
      · by_cases h2 : 126 < (s[k].toNat : Int)
        · have hf := Lib.hid (show printable s = false by
            unfold printable; rw [not_all hlt (by unfold okPr; simp; omega)]; rfl)
          go_wp2
          go_ret
          exact ⟨ret_bool hf.out.symm, rfl⟩
        · have hf := Lib.hid (show okPr s[k] = true by unfold okPr; simp; omega)
          go_wp2
          go_round
          case rel => exact ⟨k + 1, by omega, by go_num, fun j hj h => by
            by_cases e : j = k
            · subst e; exact hf.out
            · exact hall'.out j hj (by omega)⟩
          case measure => (simp [intOf] <;> omega)
    · have hf := Lib.hid (show printable s = decide ((s.size : Int) ≤ 120) by
        unfold printable; rw [all_of (fun j hj => hall'.out j hj (by omega))]; rfl)
      go_wp2
      go_ret
      exact ⟨ret_bool hf.out.symm, rfl⟩

theorem ilt (a b : Int) : a < b ∨ b ≤ a := by omega
def isLet (c : UInt8) : Bool := decide (97 ≤ (c.toNat : Int)) && decide ((c.toNat : Int) ≤ 122)
def isDig (c : UInt8) : Bool := decide (48 ≤ (c.toNat : Int)) && decide ((c.toNat : Int) ≤ 57)
def okWd (j : Nat) (c : UInt8) : Bool := isLet c || (decide (0 < j) && isDig c)
/-- The letters of a word: lower-case letters and digits, a letter first. -/
def shapeB (s : ByteArray) : Bool := decide (0 < s.size) && (List.range s.size).all fun j => okWd j (s.data.toList.getD j 0)
def wordB (s : ByteArray) : Bool := shapeB s && decide ((s.size : Int) ≤ 8)
theorem getD_get (s : ByteArray) (j : Nat) (h : j < s.size) : s.data.toList.getD j 0 = s[j] := by
  rw [List.getD_eq_getElem?_getD, List.getElem?_eq_getElem (by simpa using h)]
  rfl
theorem shapeB_false {s : ByteArray} {j : Nat} (hj : j < s.size) (h : okWd j s[j] = false) : shapeB s = false := by
  unfold shapeB
  rw [Bool.and_eq_false_iff]
  refine Or.inr (List.all_eq_false.2 ⟨j, List.mem_range.2 hj, ?_⟩)
  rw [getD_get s j hj, h]
  decide
theorem shapeB_true {s : ByteArray} (h : ∀ j (hj : j < s.size), okWd j s[j] = true) : shapeB s = decide (0 < (s.size : Int)) := by
  unfold shapeB
  rw [List.all_eq_true.2 (fun j hj => by rw [getD_get s j (List.mem_range.1 hj)]; exact h j _), Bool.and_true]
  simp
theorem wordB_false {s : ByteArray} {j : Nat} (hj : j < s.size) (h : okWd j s[j] = false) : wordB s = false := by
  unfold wordB
  rw [shapeB_false hj h]
  rfl
theorem wordB_true {s : ByteArray} (h : ∀ j (hj : j < s.size), okWd j s[j] = true) : wordB s = inR s.size 1 8 := by
  unfold wordB inR
  rw [shapeB_true h]
  congr 1

set_option maxHeartbeats 1000000 in
theorem isWord_impl (s : ByteArray) (hs : s.size ≤ 9223372036854775807) (w : World) : Calls Tryd.prog 98 #[.string s] w (RetQ (.bool (wordB s)) w) := by
  go_enter Tryd.func98, Tryd.ntmps98
  go_wp2
  go_loop [3] (fun i => ∃ k : Nat, k ≤ s.size ∧ i = .int .i64 k ∧ ∀ j (hj : j < s.size), j < k → okWd j s[j] = true) (fun i => s.size - (intOf i).toNat)
  case atStart => exact ⟨0, Nat.zero_le _, rfl, fun j hj h => absurd h (by omega)⟩
  case round =>
    obtain ⟨k, hk, rfl, hall⟩ := hrel
    have hall' := Lib.hid hall
    clear hall
    by_cases hlt : k < s.size
    · rcases ilt (s[k].toNat : Int) 97 with h1 | h1
      · have d1 : decide (97 ≤ (s[k].toNat : Int)) = false := by simp; omega
        by_cases hk0 : k = 0
        · have hk1 : ((k : Int) == 0) = true := by simp [hk0]
          have hk2 : okWd k s[k] = false := by unfold okWd isLet isDig; simp; omega
          clear hk0
          have hf := Lib.hid (show false = wordB s from (wordB_false hlt (hk2)).symm)
          clear hk2
          go_wp2
          all_goals (go_ret; exact ⟨ret_bool hf.out, rfl⟩)
        · have hk1 : ((k : Int) == 0) = false := by simp; omega
          rcases ilt (s[k].toNat : Int) 48 with h3 | h3
          · have d2 : decide (48 ≤ (s[k].toNat : Int)) = false := by simp; omega
            have hf := Lib.hid (show false = wordB s from (wordB_false hlt (by unfold okWd isLet isDig; simp; omega)).symm)
            go_wp2
            all_goals (go_ret; exact ⟨ret_bool hf.out, rfl⟩)
          · rcases ilt 57 (s[k].toNat : Int) with h4 | h4
            · have d2 : decide ((s[k].toNat : Int) ≤ 57) = false := by simp; omega
              have hf := Lib.hid (show false = wordB s from (wordB_false hlt (by unfold okWd isLet isDig; simp; omega)).symm)
              go_wp2
              all_goals (go_ret; exact ⟨ret_bool hf.out, rfl⟩)
            · skip
              have hf := Lib.hid (show okWd k s[k] = true from by unfold okWd isLet isDig; simp; omega)
              go_wp2
              go_round
              case rel => exact ⟨k + 1, by omega, by go_num, fun j hj h => by
                by_cases e : j = k
                · subst e; exact hf.out
                · exact hall'.out j hj (by omega)⟩
              case measure => (simp [intOf] <;> omega)
      · rcases ilt 122 (s[k].toNat : Int) with h2 | h2
        · have d1 : decide ((s[k].toNat : Int) ≤ 122) = false := by simp; omega
          by_cases hk0 : k = 0
          · have hk1 : ((k : Int) == 0) = true := by simp [hk0]
            have hk2 : okWd k s[k] = false := by unfold okWd isLet isDig; simp; omega
            clear hk0
            have hf := Lib.hid (show false = wordB s from (wordB_false hlt (hk2)).symm)
            clear hk2
            go_wp2
            all_goals (go_ret; exact ⟨ret_bool hf.out, rfl⟩)
          · have hk1 : ((k : Int) == 0) = false := by simp; omega
            rcases ilt (s[k].toNat : Int) 48 with h3 | h3
            · have d2 : decide (48 ≤ (s[k].toNat : Int)) = false := by simp; omega
              have hf := Lib.hid (show false = wordB s from (wordB_false hlt (by unfold okWd isLet isDig; simp; omega)).symm)
              go_wp2
              all_goals (go_ret; exact ⟨ret_bool hf.out, rfl⟩)
            · rcases ilt 57 (s[k].toNat : Int) with h4 | h4
              · have d2 : decide ((s[k].toNat : Int) ≤ 57) = false := by simp; omega
                have hf := Lib.hid (show false = wordB s from (wordB_false hlt (by unfold okWd isLet isDig; simp; omega)).symm)
                go_wp2
                all_goals (go_ret; exact ⟨ret_bool hf.out, rfl⟩)
              · skip
                omega
        · skip
          have hf := Lib.hid (show okWd k s[k] = true from by unfold okWd isLet isDig; simp; omega)
          go_wp2
          go_round
          case rel => exact ⟨k + 1, by omega, by go_num, fun j hj h => by
            by_cases e : j = k
            · subst e; exact hf.out
            · exact hall'.out j hj (by omega)⟩
          case measure => (simp [intOf] <;> omega)
    · have hf := Lib.hid (show inR s.size 1 8 = wordB s from (wordB_true (fun j hj => hall'.out j hj (by omega))).symm)
      go_wp2_with (go_at_call 71; refine (within_any _ _ _ _).mono ?_; rintro e w' ⟨rfl, rfl⟩)
      go_ret
      exact ⟨ret_bool hf.out, rfl⟩

set_option maxHeartbeats 1000000 in
theorem l2Shape_spec (s : ByteArray) (hs : s.size ≤ 9223372036854775807) (w : World) : Calls Tryd.prog 96 #[.string s] w (RetQ (.bool (shapeB s)) w) := by
  go_enter Tryd.func96, Tryd.ntmps96
  go_wp2
  go_loop [3] (fun i => ∃ k : Nat, k ≤ s.size ∧ i = .int .i64 k ∧ ∀ j (hj : j < s.size), j < k → okWd j s[j] = true) (fun i => s.size - (intOf i).toNat)
  case atStart => exact ⟨0, Nat.zero_le _, rfl, fun j hj h => absurd h (by omega)⟩
  case round =>
    obtain ⟨k, hk, rfl, hall⟩ := hrel
    have hall' := Lib.hid hall
    clear hall
    by_cases hlt : k < s.size
    · rcases ilt (s[k].toNat : Int) 97 with h1 | h1
      · have d1 : decide (97 ≤ (s[k].toNat : Int)) = false := by simp; omega
        by_cases hk0 : k = 0
        · have hk1 : ((k : Int) == 0) = true := by simp [hk0]
          have hk2 : okWd k s[k] = false := by unfold okWd isLet isDig; simp; omega
          clear hk0
          have hf := Lib.hid (show false = shapeB s from (shapeB_false hlt (hk2)).symm)
          clear hk2
          go_wp2
          all_goals (go_ret; exact ⟨ret_bool hf.out, rfl⟩)
        · have hk1 : ((k : Int) == 0) = false := by simp; omega
          rcases ilt (s[k].toNat : Int) 48 with h3 | h3
          · have d2 : decide (48 ≤ (s[k].toNat : Int)) = false := by simp; omega
            have hf := Lib.hid (show false = shapeB s from (shapeB_false hlt (by unfold okWd isLet isDig; simp; omega)).symm)
            go_wp2
            all_goals (go_ret; exact ⟨ret_bool hf.out, rfl⟩)
          · rcases ilt 57 (s[k].toNat : Int) with h4 | h4
            · have d2 : decide ((s[k].toNat : Int) ≤ 57) = false := by simp; omega
              have hf := Lib.hid (show false = shapeB s from (shapeB_false hlt (by unfold okWd isLet isDig; simp; omega)).symm)
              go_wp2
              all_goals (go_ret; exact ⟨ret_bool hf.out, rfl⟩)
            · skip
              have hf := Lib.hid (show okWd k s[k] = true from by unfold okWd isLet isDig; simp; omega)
              go_wp2
              go_round
              case rel => exact ⟨k + 1, by omega, by go_num, fun j hj h => by
                by_cases e : j = k
                · subst e; exact hf.out
                · exact hall'.out j hj (by omega)⟩
              case measure => (simp [intOf] <;> omega)
      · rcases ilt 122 (s[k].toNat : Int) with h2 | h2
        · have d1 : decide ((s[k].toNat : Int) ≤ 122) = false := by simp; omega
          by_cases hk0 : k = 0
          · have hk1 : ((k : Int) == 0) = true := by simp [hk0]
            have hk2 : okWd k s[k] = false := by unfold okWd isLet isDig; simp; omega
            clear hk0
            have hf := Lib.hid (show false = shapeB s from (shapeB_false hlt (hk2)).symm)
            clear hk2
            go_wp2
            all_goals (go_ret; exact ⟨ret_bool hf.out, rfl⟩)
          · have hk1 : ((k : Int) == 0) = false := by simp; omega
            rcases ilt (s[k].toNat : Int) 48 with h3 | h3
            · have d2 : decide (48 ≤ (s[k].toNat : Int)) = false := by simp; omega
              have hf := Lib.hid (show false = shapeB s from (shapeB_false hlt (by unfold okWd isLet isDig; simp; omega)).symm)
              go_wp2
              all_goals (go_ret; exact ⟨ret_bool hf.out, rfl⟩)
            · rcases ilt 57 (s[k].toNat : Int) with h4 | h4
              · have d2 : decide ((s[k].toNat : Int) ≤ 57) = false := by simp; omega
                have hf := Lib.hid (show false = shapeB s from (shapeB_false hlt (by unfold okWd isLet isDig; simp; omega)).symm)
                go_wp2
                all_goals (go_ret; exact ⟨ret_bool hf.out, rfl⟩)
              · skip
                omega
        · skip
          have hf := Lib.hid (show okWd k s[k] = true from by unfold okWd isLet isDig; simp; omega)
          go_wp2
          go_round
          case rel => exact ⟨k + 1, by omega, by go_num, fun j hj h => by
            by_cases e : j = k
            · subst e; exact hf.out
            · exact hall'.out j hj (by omega)⟩
          case measure => (simp [intOf] <;> omega)
    · have hf := Lib.hid (show decide (0 < s.size) = shapeB s from ((shapeB_true (fun j hj => hall'.out j hj (by omega))).trans (by simp)).symm)
      go_wp2
      go_ret
      exact ⟨ret_bool hf.out, rfl⟩

end Go.Proofs.YtdjcflnemnknaaaDoor
