/-
  Lists of names: the first index, membership; each once in ascending order, both packages.
-/
import Derived.Test.YtdjcflnemnknaaaDoorKinds
import Derived.Test.YtdjcflnemnknaaaDoorDefs
namespace Go.Proofs.YtdjcflnemnknaaaDoor
open Go.RowKit
set_option linter.unusedSimpArgs false
set_option linter.unusedVariables false

def idxFromS : List ByteArray → ByteArray → Nat → Int
  | [], _, _ => -1
  | x :: r, s, k => if x = s then (k : Int) else idxFromS r s (k + 1)
def hasS : List ByteArray → ByteArray → Bool
  | [], _ => false
  | x :: r, s => decide (x = s) || hasS r s
theorem hasS_iff {l : List ByteArray} {s : ByteArray} : hasS l s = true ↔ s ∈ l := by
  induction l with
  | nil => simp [hasS]
  | cons x l ih =>
    rw [hasS, Bool.or_eq_true, decide_eq_true_eq, ih, List.mem_cons]
    exact ⟨fun h => h.elim (fun e => Or.inl e.symm) Or.inr, fun h => h.elim (fun e => Or.inl e.symm) Or.inr⟩
def idxS (l : List ByteArray) (s : ByteArray) : Int := idxFromS l s 0

set_option maxHeartbeats 1000000 in
theorem indexOf_impl (l : List ByteArray) (s : ByteArray) (fp : List Nat) (v : Value) (w : World) (hS : Sl w (l.map ls) fp v) : Calls Tryd.prog 119 #[v, .string s] w (RetQ (.int .i64 (idxS l s)) w) := by
  obtain ⟨A, c, rfl, hl, hc⟩ := hS.formT
  have hm : l.length ≤ 9223372036854775807 := by unfold maxLen at hc; omega
  clear hl hc
  go_enter Tryd.func119, Tryd.ntmps119
  go_wp2_with fail
  go_loop [9] (fun iv => ∃ k : Nat, k ≤ l.length ∧ iv = .int .i64 k ∧ idxS l s = idxFromS (l.drop k) s k) (fun iv => l.length - (intOf iv).toNat)
  case atStart => exact ⟨0, by omega, rfl, rfl⟩
  case round =>
    obtain ⟨k, hk, rfl, he⟩ := hrel
    have he' := Lib.hid he
    clear he
    by_cases hlt : k < l.length
    · have hd : (l.map ls)[k]? = some (ls l[k]) := by rw [List.getElem?_map, List.getElem?_eq_getElem hlt]; rfl
      obtain ⟨b, o, fi, ci, rfl, hbb, hbf, hri, hfi, hat⟩ := hS.elem ls_szs hd
      obtain ⟨rfl, rfl⟩ := hri
      simp only [Nat.mul_one] at hat
      have q0 : w.cell? ⟨b, o + k, none⟩ = some (.string l[k]) := hat.head
      clear hat hd
      have hst := Lib.hid (show idxFromS (l.drop k) s k = if l[k] = s then (k : Int) else idxFromS (l.drop (k + 1)) s (k + 1) by rw [List.drop_eq_getElem_cons hlt, idxFromS])
      cases e1 : (l[k].toList == s.toList) with
      | true =>
        have hid : l[k] = s := bytes_eq_of (by simpa using e1)
        have hf := Lib.hid (show (k : Int) = idxS l s by rw [he'.out, hst.out, if_pos hid])
        clear hid
        go_wp2_with fail
        go_ret
        exact ⟨ret_int hf.out, rfl⟩
      | false =>
        have hid : ¬ l[k] = s := fun e => by simp [e] at e1
        have hf := Lib.hid (show idxS l s = idxFromS (l.drop (k + 1)) s (k + 1) by rw [he'.out, hst.out, if_neg hid])
        clear hid
        go_wp2_with fail
        go_round
        case rel => exact ⟨k + 1, by omega, by go_num, hf.out⟩
        case measure => (simp [intOf] <;> omega)
    · have hf := Lib.hid (show (-1 : Int) = idxS l s by rw [he'.out, List.drop_eq_nil_of_le (by omega)]; rfl)
      go_wp2_with fail
      go_ret
      exact ⟨ret_int hf.out, rfl⟩

set_option maxHeartbeats 1000000 in
theorem l1Has_spec (l : List ByteArray) (s : ByteArray) (fp : List Nat) (v : Value) (w : World) (hS : Sl w (l.map ls) fp v) : Calls Tryd.prog 118 #[v, .string s] w (RetQ (.bool (hasS l s)) w) := by
  obtain ⟨A, c, rfl, hl, hc⟩ := hS.formT
  have hm : l.length ≤ 9223372036854775807 := by unfold maxLen at hc; omega
  clear hl hc
  go_enter Tryd.func118, Tryd.ntmps118
  go_wp2_with fail
  go_loop [5] (fun iv => ∃ k : Nat, k ≤ l.length ∧ iv = .int .i64 k ∧ hasS l s = hasS (l.drop k) s) (fun iv => l.length - (intOf iv).toNat)
  case atStart => exact ⟨0, by omega, rfl, rfl⟩
  case round =>
    obtain ⟨k, hk, rfl, he⟩ := hrel
    have he' := Lib.hid he
    clear he
    by_cases hlt : k < l.length
    · have hd : (l.map ls)[k]? = some (ls l[k]) := by rw [List.getElem?_map, List.getElem?_eq_getElem hlt]; rfl
      obtain ⟨b, o, fi, ci, rfl, hbb, hbf, hri, hfi, hat⟩ := hS.elem ls_szs hd
      obtain ⟨rfl, rfl⟩ := hri
      simp only [Nat.mul_one] at hat
      have q0 : w.cell? ⟨b, o + k, none⟩ = some (.string l[k]) := hat.head
      clear hat hd
      have hst := Lib.hid (show hasS (l.drop k) s = (decide (l[k] = s) || hasS (l.drop (k + 1)) s) by rw [List.drop_eq_getElem_cons hlt, hasS])
      cases e1 : (l[k].toList == s.toList) with
      | true =>
        have hid : l[k] = s := bytes_eq_of (by simpa using e1)
        have hf := Lib.hid (show true = hasS l s by rw [he'.out, hst.out]; simp [hid])
        clear hid
        go_wp2_with fail
        go_ret
        exact ⟨ret_bool hf.out, rfl⟩
      | false =>
        have hid : ¬ l[k] = s := fun e => by simp [e] at e1
        have hf := Lib.hid (show hasS l s = hasS (l.drop (k + 1)) s by rw [he'.out, hst.out]; simp [hid])
        clear hid
        go_wp2_with fail
        go_round
        case rel => exact ⟨k + 1, by omega, by go_num, hf.out⟩
        case measure => (simp [intOf] <;> omega)
    · have hf := Lib.hid (show false = hasS l s by rw [he'.out, List.drop_eq_nil_of_le (by omega)]; rfl)
      go_wp2_with fail
      go_ret
      exact ⟨ret_bool hf.out, rfl⟩

end Go.Proofs.YtdjcflnemnknaaaDoor
