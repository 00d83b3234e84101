/-
  When a value is a table: the plain part. No Go text in sight.
-/
import Derived.Test.YtdjcflnemnknaaaDoorSort
import Derived.Test.YtdjcflnemnknaaaDoorRes2
namespace Go.Proofs.YtdjcflnemnknaaaDoor
open Go.RowKit
set_option linter.unusedSimpArgs false
set_option linter.unusedVariables false
/-- p holds of all numbers below n. -/
def allN (p : Nat → Bool) : Nat → Bool
  | 0 => true
  | n + 1 => allN p n && p n
theorem allN_succ {p : Nat → Bool} {k : Nat} (h1 : allN p k = true) (h2 : p k = true) : allN p (k + 1) = true := by rw [allN, h1, h2]; rfl
theorem allN_false {p : Nat → Bool} {k n : Nat} (hk : k < n) (h : p k = false) : allN p n = false := by
  induction n with
  | zero => omega
  | succ n ih =>
    rw [allN]
    by_cases e : k = n
    · subst e; rw [h, Bool.and_false]
    · rw [ih (by omega), Bool.false_and]
theorem allN_at {p : Nat → Bool} {k n : Nat} (hk : k < n) (h : allN p n = true) : p k = true := by
  cases hp : p k with
  | true => rfl
  | false => rw [allN_false hk hp] at h; cases h
def pAt {α : Type} (p : α → Bool) (l : List α) (k : Nat) : Bool := match l[k]? with | some x => p x | none => true
theorem pAt_eq {α : Type} (p : α → Bool) {l : List α} {k : Nat} (h : k < l.length) : pAt p l k = p l[k] := by simp [pAt, h]
/-- p holds of all elements. -/
def allL {α : Type} (p : α → Bool) (l : List α) : Bool := allN (pAt p l) l.length
theorem allL_false {α : Type} {p : α → Bool} {l : List α} {k : Nat} (hk : k < l.length) (h : p l[k] = false) : allL p l = false := allN_false hk (by rw [pAt_eq p hk]; exact h)
theorem allL_mem {α : Type} {p : α → Bool} {l : List α} (h : allL p l = true) : ∀ x ∈ l, p x = true := fun x hx => by
  obtain ⟨k, hk, rfl⟩ := List.mem_iff_getElem.1 hx
  rw [← pAt_eq p hk]
  exact allN_at hk h
def numB (n : Int) : Bool := inR n (-1000000000) 1000000000
def befB (a b : GOrigin) : Bool := decide (a.cell < b.cell) || (a.cell == b.cell && decide (a.row < b.row))
def orgB (l : List GOrigin) (k : Nat) : Bool := match l[k]? with
  | some o => !decide (o.cell < 0) && (!decide (o.row < 0) && (!decide (0 < k) || (match l[k - 1]? with | some a => befB a o | none => true)))
  | none => true
def ascB (l : List GOrigin) : Bool := allN (orgB l) l.length
theorem orgB_neg1 {l : List GOrigin} {k : Nat} (hk : k < l.length) (h : l[k].cell < 0) : orgB l k = false := by simp [orgB, hk, h]
theorem orgB_neg2 {l : List GOrigin} {k : Nat} (hk : k < l.length) (h : l[k].row < 0) : orgB l k = false := by simp [orgB, hk, h]
theorem orgB_zero {l : List GOrigin} (hk : 0 < l.length) (h : ¬ l[0].cell < 0) (h2 : ¬ l[0].row < 0) : orgB l 0 = true := by simp [orgB, hk]; omega
theorem orgB_succ {l : List GOrigin} {k : Nat} (hk : k < l.length) (h0 : 0 < k) (h : ¬ l[k].cell < 0) (h2 : ¬ l[k].row < 0) : orgB l k = befB (l[k - 1]'(by omega)) l[k] := by
  have e : (l[k - 1]?) = some (l[k - 1]'(by omega)) := List.getElem?_eq_getElem _
  simp [orgB, hk, h0, e, h, h2]
/-- No name twice. -/
def dstB (l : List ByteArray) : Bool := allN (fun k => match l[k]? with | some s => !hasS (l.take k) s | none => true) l.length
theorem dst_at {l : List ByteArray} {k : Nat} (hk : k < l.length) : (match l[k]? with | some s => !hasS (l.take k) s | none => true) = !hasS (l.take k) l[k] := by simp [hk]
theorem idxFrom_at : ∀ (l : List ByteArray) (k m : Nat) (hk : k < l.length), hasS (l.take k) l[k] = false → idxFromS l l[k] m = ((m + k : Nat) : Int)
  | x :: l, 0, m, _, _ => by simp [idxFromS]
  | x :: l, k + 1, m, hk, h => by
    rw [List.take_succ_cons, hasS, Bool.or_eq_false_iff] at h
    have h1 : ¬ x = l[k]'(by simpa using hk) := by simpa using h.1
    rw [List.getElem_cons_succ, idxFromS, if_neg h1]
    rw [idxFrom_at l k (m + 1) (by simpa using hk) (by simpa using h.2)]
    congr 1
    omega
theorem idxFrom_lt : ∀ (l : List ByteArray) (k m : Nat) (s : ByteArray), hasS (l.take k) s = true → idxFromS l s m < ((m + k : Nat) : Int)
  | [], k, m, s, h => by simp [hasS] at h
  | x :: l, 0, m, s, h => by simp [hasS] at h
  | x :: l, k + 1, m, s, h => by
    rw [idxFromS]
    split
    · omega
    · next hne =>
      rw [List.take_succ_cons, hasS, Bool.or_eq_true, decide_eq_true_eq] at h
      rcases h with h | h
      · exact absurd h hne
      · have := idxFrom_lt l k (m + 1) s h
        omega
theorem idxS_at {l : List ByteArray} {k : Nat} (hk : k < l.length) : (idxS l l[k] != (k : Int)) = hasS (l.take k) l[k] := by
  cases h : hasS (l.take k) l[k] with
  | false =>
    have := idxFrom_at l k 0 hk h
    rw [Nat.zero_add] at this
    simp [idxS, this]
  | true =>
    have := idxFrom_lt l k 0 _ h
    rw [Nat.zero_add] at this
    simp [idxS]
    omega
def validNm (s : ByteArray) : Bool := wordB s && !resB s.toList
def colsB (l : List ByteArray) : Bool := allL validNm l && (inR (l.length : Int) 1 4 && dstB l)
def rowB (c : Nat) (r : GRow) : Bool := decide (r.cells.length = c) && (ascB r.src && allL numB r.cells)
def tblB (x : GVal) : Bool := colsB x.cols && (decide (x.rows.length ≤ 12) && allL (rowB x.cols.length) x.rows)
/-- A value of kind 5 that is valid. -/
def validT (x : GVal) : Bool := (x.n == 0) && ((x.step == 0) && ((x.text.toList == (⟨#[]⟩ : ByteArray).toList) && (decide (x.list.length = 0) && tblB x)))
end Go.Proofs.YtdjcflnemnknaaaDoor
