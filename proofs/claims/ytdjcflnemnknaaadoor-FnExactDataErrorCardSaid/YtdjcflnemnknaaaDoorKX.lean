/-
  Texts joined: Defs Sort TblP.
-/
import Derived.Test.YtdjcflnemnknaaaDoorJA
import Derived.Test.YtdjcflnemnknaaaDoorKO
namespace Go.Proofs.YtdjcflnemnknaaaDoor
open Go.RowKit
set_option linter.unusedSimpArgs false
set_option linter.unusedVariables false

def isDef (x : GPart) (nm : ByteArray) : Bool := (x.kind != 1) && decide (x.name = nm)
def defsTo (l : List GPart) (nm : ByteArray) : Nat → List Int
  | 0 => []
  | k + 1 => defsTo l nm k ++ (match l[k]? with | some x => if isDef x nm then [(k : Int)] else [] | none => [])
/-- A slice of ints that the call owns. -/
def OwnI (w : World) (base : Nat) (l : List Int) (v : Value) : Prop := w.ownsRow base 3 1 v l.length (l.map (Value.int .i64))
theorem Rs_ints {w : World} : ∀ {l : List Int} {fp : List Nat} {cs : List Value}, Rs w (l.map li) fp cs ↔ fp = [] ∧ cs = l.map (Value.int .i64)
  | [], fp, cs => by rw [List.map_nil, Rs]; rfl
  | x :: l, fp, cs => by
    rw [List.map_cons, Rs]
    constructor
    · rintro ⟨f1, f2, c1, c2, rfl, rfl, ⟨rfl, rfl⟩, h2⟩
      obtain ⟨rfl, rfl⟩ := Rs_ints.1 h2
      exact ⟨rfl, rfl⟩
    · rintro ⟨rfl, rfl⟩
      exact ⟨[], [], [.int .i64 x], l.map (Value.int .i64), rfl, rfl, ⟨rfl, rfl⟩, Rs_ints.2 ⟨rfl, rfl⟩⟩
theorem OwnI.sl {w : World} {base : Nat} {l : List Int} {v : Value} (h : OwnI w base l v) : Sl w (l.map li) v.ownBlock.toList v := by
  have h' : w.ownsRow base 3 1 v (l.map li).length (l.map (Value.int .i64)) := by rw [List.length_map]; exact h
  have := Sl.of_own h' (Rs_ints.2 ⟨rfl, rfl⟩)
  rwa [List.append_nil] at this
theorem OwnI.lit {w : World} {base g : Nat} (hg : w.heap.size = g) (hb : base ≤ g) : OwnI (w.alloc (.cells #[] 3)) base [] (.slice (some ⟨g, 0, none⟩) 0 0) := by
  subst hg
  exact World.ownsRow_lit w #[] 0 hb (by simp) rfl

def DefPost (l : List GPart) (nm : ByteArray) (w : World) (e : Ending) (w' : World) : Prop := ∃ v, e = .returned v ∧ OwnI w' w.heap.size (defsTo l nm l.length) v ∧ Below w.heap.size w w'
theorem bytes_eq_of {a b : ByteArray} (h : a.toList = b.toList) : a = b := by
  rw [ByteArray.toList_eq, ByteArray.toList_eq] at h
  have : a.data = b.data := Array.toList_inj.1 h
  cases a; cases b; simp_all

def resV (D : List Int) : Int := match D with | [] => -1 | [x] => x | _ => -2
def dupB (l : List GPart) (i : Int) : Bool := if 0 ≤ i then (match l[i.toNat]? with | some x => (x.kind != 1) && decide (1 < (defsTo l x.name l.length).length) | none => false) else false
end Go.Proofs.YtdjcflnemnknaaaDoor

namespace Go.Proofs.YtdjcflnemnknaaaDoor
open Go.RowKit
set_option linter.unusedSimpArgs false
set_option linter.unusedVariables false

def idxFromS : List ByteArray → ByteArray → Nat → Int
  | [], _, _ => -1
  | x :: r, s, k => if x = s then (k : Int) else idxFromS r s (k + 1)
def hasS : List ByteArray → ByteArray → Bool
  | [], _ => false
  | x :: r, s => decide (x = s) || hasS r s
def idxS (l : List ByteArray) (s : ByteArray) : Int := idxFromS l s 0

set_option maxHeartbeats 1000000 in
theorem indexOf_impl (l : List ByteArray) (s : ByteArray) (fp : List Nat) (v : Value) (w : World) (hS : Sl w (l.map ls) fp v) : Calls Tryd.prog 119 #[v, .string s] w (RetQ (.int .i64 (idxS l s)) w) := by
  obtain ⟨A, c, rfl, hl, hc⟩ := hS.formT
  have hm : l.length ≤ 9223372036854775807 := by unfold maxLen at hc; omega
  clear hl hc
  go_enter Tryd.func119, Tryd.ntmps119
  go_wp2_with fail
  go_loop [9] (fun iv => ∃ k : Nat, k ≤ l.length ∧ iv = .int .i64 k ∧ idxS l s = idxFromS (l.drop k) s k) (fun iv => l.length - (intOf iv).toNat)
  case atStart => exact ⟨0, by omega, rfl, rfl⟩
  case round =>
    obtain ⟨k, hk, rfl, he⟩ := hrel
    have he' := Lib.hid he
    clear he
    by_cases hlt : k < l.length
    · have hd : (l.map ls)[k]? = some (ls l[k]) := by rw [List.getElem?_map, List.getElem?_eq_getElem hlt]; rfl
      obtain ⟨b, o, fi, ci, rfl, hbb, hbf, hri, hfi, hat⟩ := hS.elem ls_szs hd
      obtain ⟨rfl, rfl⟩ := hri
      simp only [Nat.mul_one] at hat
      have q0 : w.cell? ⟨b, o + k, none⟩ = some (.string l[k]) := hat.head
      clear hat hd
      have hst := Lib.hid (show idxFromS (l.drop k) s k = if l[k] = s then (k : Int) else idxFromS (l.drop (k + 1)) s (k + 1) by rw [List.drop_eq_getElem_cons hlt, idxFromS])
      cases e1 : (l[k].toList == s.toList) with
      | true =>
        have hid : l[k] = s := bytes_eq_of (by simpa using e1)
        have hf := Lib.hid (show (k : Int) = idxS l s by rw [he'.out, hst.out, if_pos hid])
        clear hid
        go_wp2_with fail
        go_ret
        exact ⟨ret_int hf.out, rfl⟩
      | false =>
        have hid : ¬ l[k] = s := fun e => by simp [e] at e1
        have hf := Lib.hid (show idxS l s = idxFromS (l.drop (k + 1)) s (k + 1) by rw [he'.out, hst.out, if_neg hid])
        clear hid
        go_wp2_with fail
        go_round
        case rel => exact ⟨k + 1, by omega, by go_num, hf.out⟩
        case measure => (simp [intOf] <;> omega)
    · have hf := Lib.hid (show (-1 : Int) = idxS l s by rw [he'.out, List.drop_eq_nil_of_le (by omega)]; rfl)
      go_wp2_with fail
      go_ret
      exact ⟨ret_int hf.out, rfl⟩

set_option maxHeartbeats 1000000 in
theorem l1Has_spec (l : List ByteArray) (s : ByteArray) (fp : List Nat) (v : Value) (w : World) (hS : Sl w (l.map ls) fp v) : Calls Tryd.prog 118 #[v, .string s] w (RetQ (.bool (hasS l s)) w) := by
  obtain ⟨A, c, rfl, hl, hc⟩ := hS.formT
  have hm : l.length ≤ 9223372036854775807 := by unfold maxLen at hc; omega
  clear hl hc
  go_enter Tryd.func118, Tryd.ntmps118
  go_wp2_with fail
  go_loop [5] (fun iv => ∃ k : Nat, k ≤ l.length ∧ iv = .int .i64 k ∧ hasS l s = hasS (l.drop k) s) (fun iv => l.length - (intOf iv).toNat)
  case atStart => exact ⟨0, by omega, rfl, rfl⟩
  case round =>
    obtain ⟨k, hk, rfl, he⟩ := hrel
    have he' := Lib.hid he
    clear he
    by_cases hlt : k < l.length
    · have hd : (l.map ls)[k]? = some (ls l[k]) := by rw [List.getElem?_map, List.getElem?_eq_getElem hlt]; rfl
      obtain ⟨b, o, fi, ci, rfl, hbb, hbf, hri, hfi, hat⟩ := hS.elem ls_szs hd
      obtain ⟨rfl, rfl⟩ := hri
      simp only [Nat.mul_one] at hat
      have q0 : w.cell? ⟨b, o + k, none⟩ = some (.string l[k]) := hat.head
      clear hat hd
      have hst := Lib.hid (show hasS (l.drop k) s = (decide (l[k] = s) || hasS (l.drop (k + 1)) s) by rw [List.drop_eq_getElem_cons hlt, hasS])
      cases e1 : (l[k].toList == s.toList) with
      | true =>
        have hid : l[k] = s := bytes_eq_of (by simpa using e1)
        have hf := Lib.hid (show true = hasS l s by rw [he'.out, hst.out]; simp [hid])
        clear hid
        go_wp2_with fail
        go_ret
        exact ⟨ret_bool hf.out, rfl⟩
      | false =>
        have hid : ¬ l[k] = s := fun e => by simp [e] at e1
        have hf := Lib.hid (show hasS l s = hasS (l.drop (k + 1)) s by rw [he'.out, hst.out]; simp [hid])
        clear hid
        go_wp2_with fail
        go_round
        case rel => exact ⟨k + 1, by omega, by go_num, hf.out⟩
        case measure => (simp [intOf] <;> omega)
    · have hf := Lib.hid (show false = hasS l s by rw [he'.out, List.drop_eq_nil_of_le (by omega)]; rfl)
      go_wp2_with fail
      go_ret
      exact ⟨ret_bool hf.out, rfl⟩

end Go.Proofs.YtdjcflnemnknaaaDoor

namespace Go.Proofs.YtdjcflnemnknaaaDoor
open Go.RowKit
set_option linter.unusedSimpArgs false
set_option linter.unusedVariables false
/-- p holds of all numbers below n. -/
def allN (p : Nat → Bool) : Nat → Bool
  | 0 => true
  | n + 1 => allN p n && p n
theorem allN_succ {p : Nat → Bool} {k : Nat} (h1 : allN p k = true) (h2 : p k = true) : allN p (k + 1) = true := by rw [allN, h1, h2]; rfl
theorem allN_false {p : Nat → Bool} {k n : Nat} (hk : k < n) (h : p k = false) : allN p n = false := by
  induction n with
  | zero => omega
  | succ n ih =>
    rw [allN]
    by_cases e : k = n
    · subst e; rw [h, Bool.and_false]
    · rw [ih (by omega), Bool.false_and]
theorem allN_at {p : Nat → Bool} {k n : Nat} (hk : k < n) (h : allN p n = true) : p k = true := by
  cases hp : p k with
  | true => rfl
  | false => rw [allN_false hk hp] at h; cases h
def pAt {α : Type} (p : α → Bool) (l : List α) (k : Nat) : Bool := match l[k]? with | some x => p x | none => true
theorem pAt_eq {α : Type} (p : α → Bool) {l : List α} {k : Nat} (h : k < l.length) : pAt p l k = p l[k] := by simp [pAt, h]
/-- p holds of all elements. -/
def allL {α : Type} (p : α → Bool) (l : List α) : Bool := allN (pAt p l) l.length
theorem allL_false {α : Type} {p : α → Bool} {l : List α} {k : Nat} (hk : k < l.length) (h : p l[k] = false) : allL p l = false := allN_false hk (by rw [pAt_eq p hk]; exact h)
theorem allL_mem {α : Type} {p : α → Bool} {l : List α} (h : allL p l = true) : ∀ x ∈ l, p x = true := fun x hx => by
  obtain ⟨k, hk, rfl⟩ := List.mem_iff_getElem.1 hx
  rw [← pAt_eq p hk]
  exact allN_at hk h
def numB (n : Int) : Bool := inR n (-1000000000) 1000000000
def befB (a b : GOrigin) : Bool := decide (a.cell < b.cell) || (a.cell == b.cell && decide (a.row < b.row))
def orgB (l : List GOrigin) (k : Nat) : Bool := match l[k]? with
  | some o => !decide (o.cell < 0) && (!decide (o.row < 0) && (!decide (0 < k) || (match l[k - 1]? with | some a => befB a o | none => true)))
  | none => true
def ascB (l : List GOrigin) : Bool := allN (orgB l) l.length
theorem orgB_neg1 {l : List GOrigin} {k : Nat} (hk : k < l.length) (h : l[k].cell < 0) : orgB l k = false := by simp [orgB, hk, h]
theorem orgB_neg2 {l : List GOrigin} {k : Nat} (hk : k < l.length) (h : l[k].row < 0) : orgB l k = false := by simp [orgB, hk, h]
theorem orgB_zero {l : List GOrigin} (hk : 0 < l.length) (h : ¬ l[0].cell < 0) (h2 : ¬ l[0].row < 0) : orgB l 0 = true := by simp [orgB, hk]; omega
theorem orgB_succ {l : List GOrigin} {k : Nat} (hk : k < l.length) (h0 : 0 < k) (h : ¬ l[k].cell < 0) (h2 : ¬ l[k].row < 0) : orgB l k = befB (l[k - 1]'(by omega)) l[k] := by
  have e : (l[k - 1]?) = some (l[k - 1]'(by omega)) := List.getElem?_eq_getElem _
  simp [orgB, hk, h0, e, h, h2]
/-- No name twice. -/
def dstB (l : List ByteArray) : Bool := allN (fun k => match l[k]? with | some s => !hasS (l.take k) s | none => true) l.length
theorem dst_at {l : List ByteArray} {k : Nat} (hk : k < l.length) : (match l[k]? with | some s => !hasS (l.take k) s | none => true) = !hasS (l.take k) l[k] := by simp [hk]
theorem idxFrom_at : ∀ (l : List ByteArray) (k m : Nat) (hk : k < l.length), hasS (l.take k) l[k] = false → idxFromS l l[k] m = ((m + k : Nat) : Int)
  | x :: l, 0, m, _, _ => by simp [idxFromS]
  | x :: l, k + 1, m, hk, h => by
    rw [List.take_succ_cons, hasS, Bool.or_eq_false_iff] at h
    have h1 : ¬ x = l[k]'(by simpa using hk) := by simpa using h.1
    rw [List.getElem_cons_succ, idxFromS, if_neg h1]
    rw [idxFrom_at l k (m + 1) (by simpa using hk) (by simpa using h.2)]
    congr 1
    omega
theorem idxFrom_lt : ∀ (l : List ByteArray) (k m : Nat) (s : ByteArray), hasS (l.take k) s = true → idxFromS l s m < ((m + k : Nat) : Int)
  | [], k, m, s, h => by simp [hasS] at h
  | x :: l, 0, m, s, h => by simp [hasS] at h
  | x :: l, k + 1, m, s, h => by
    rw [idxFromS]
    split
    · omega
    · next hne =>
      rw [List.take_succ_cons, hasS, Bool.or_eq_true, decide_eq_true_eq] at h
      rcases h with h | h
      · exact absurd h hne
      · have := idxFrom_lt l k (m + 1) s h
        omega
theorem idxS_at {l : List ByteArray} {k : Nat} (hk : k < l.length) : (idxS l l[k] != (k : Int)) = hasS (l.take k) l[k] := by
  cases h : hasS (l.take k) l[k] with
  | false =>
    have := idxFrom_at l k 0 hk h
    rw [Nat.zero_add] at this
    simp [idxS, this]
  | true =>
    have := idxFrom_lt l k 0 _ h
    rw [Nat.zero_add] at this
    simp [idxS]
    omega
def validNm (s : ByteArray) : Bool := wordB s && !resB s.toList
def colsB (l : List ByteArray) : Bool := allL validNm l && (inR (l.length : Int) 1 4 && dstB l)
def rowB (c : Nat) (r : GRow) : Bool := decide (r.cells.length = c) && (ascB r.src && allL numB r.cells)
def tblB (x : GVal) : Bool := colsB x.cols && (decide (x.rows.length ≤ 12) && allL (rowB x.cols.length) x.rows)
/-- A value of kind 5 that is valid. -/
def validT (x : GVal) : Bool := (x.n == 0) && ((x.step == 0) && ((x.text.toList == (⟨#[]⟩ : ByteArray).toList) && (decide (x.list.length = 0) && tblB x)))
end Go.Proofs.YtdjcflnemnknaaaDoor

