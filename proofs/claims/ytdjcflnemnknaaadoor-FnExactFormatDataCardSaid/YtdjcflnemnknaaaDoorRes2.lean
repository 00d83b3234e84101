/-
  Reserved words and valid names of the reference; cells; notebooks: what is valid, in both packages.
-/
import Derived.Test.YtdjcflnemnknaaaDoorRes
import Derived.Test.YtdjcflnemnknaaaDoorCells
namespace Go.Proofs.YtdjcflnemnknaaaDoor
open Go.RowKit
set_option linter.unusedSimpArgs false
set_option linter.unusedVariables false

def hasB (l : List ByteArray) (s : ByteArray) : Bool := l.any fun x => x.toList == s.toList
theorem l1Has_resSpec (l : List ByteArray) (s : ByteArray) (fp : List Nat) (v : Value) (w : World) (hS : Sl w (l.map ls) fp v) : Calls Tryd.prog 118 #[v, .string s] w (RetQ (.bool (hasB l s)) w) := by
  obtain ⟨A, c, rfl, hl, hc⟩ := hS.formT
  have hm : l.length ≤ 9223372036854775807 := by unfold maxLen at hc; omega
  clear hl hc
  go_enter Tryd.func118, Tryd.ntmps118
  go_wp2_with fail
  go_loop [5] (fun iv => ∃ k : Nat, k ≤ l.length ∧ iv = .int .i64 k ∧ hasB (l.take k) s = false) (fun iv => l.length - (intOf iv).toNat)
  case atStart => exact ⟨0, by omega, rfl, rfl⟩
  case round =>
    obtain ⟨k, hk, rfl, hno⟩ := hrel
    have hno' := Lib.hid hno
    clear hno
    by_cases hlt : k < l.length
    · have hd : (l.map ls)[k]? = some (ls l[k]) := by rw [List.getElem?_map, List.getElem?_eq_getElem hlt]; rfl
      obtain ⟨b, o, fi, ci, rfl, hbb, hbf, hri, hfi, hat⟩ := hS.elem ls_szs hd
      obtain ⟨rfl, rfl⟩ := hri
      have q0 : w.cell? ⟨b, o + k, none⟩ = some (.string l[k]) := by simpa using hat.head
      clear hat hd
      cases he : ((l[k]).toList == s.toList) with
      | true =>
        have hf := Lib.hid (show true = hasB l s by
          unfold hasB
          rw [eq_comm, List.any_eq_true]
          exact ⟨l[k], List.getElem_mem hlt, he⟩)
        go_wp2_with fail
        go_ret
        exact ⟨ret_bool hf.out, rfl⟩
      | false =>
        have hf := Lib.hid (show hasB (l.take (k + 1)) s = false by
          have h := hno'.out
          unfold hasB at h ⊢
          rw [List.take_succ_eq_append_getElem hlt, List.any_append, h]
          simp [he])
        go_wp2_with fail
        go_round
        case rel => exact ⟨k + 1, by omega, by go_num, hf.out⟩
        case measure => (simp [intOf] <;> omega)
    · have hf := Lib.hid (show false = hasB l s by
        have h := hno'.out
        rw [List.take_of_length_le (by omega)] at h
        exact h.symm)
      go_wp2_with fail
      go_ret
      exact ⟨ret_bool hf.out, rfl⟩

def resNames : List ByteArray := resWords.map fun l => ⟨l.toArray⟩
theorem hasB_res (s : ByteArray) : hasB resNames s = resB s.toList := by
  unfold hasB resB resNames
  rw [List.any_map]
  induction resWords with
  | nil => rfl
  | cons x l ih =>
    rw [List.any_cons, List.contains_cons, ih]
    congr 1
    simp only [Function.comp, ByteArray.toList_mk]
    rw [Bool.eq_iff_iff, beq_iff_eq, beq_iff_eq]
    exact eq_comm
def SlPost (l : List D) (w : World) (e : Ending) (w' : World) : Prop := ∃ fp v, e = .returned v ∧ Sl w' l fp v ∧ Below w.heap.size w w'
theorem Rs_strs {w : World} : ∀ (l : List ByteArray), Rs w (l.map ls) [] (l.map Value.string)
  | [] => ⟨rfl, rfl⟩
  | x :: l => ⟨[], [], [.string x], l.map Value.string, rfl, rfl, ⟨rfl, rfl⟩, Rs_strs l⟩
set_option maxRecDepth 20000 in
theorem l2Reserved_spec (w : World) : Calls Tryd.prog 120 #[] w (SlPost (resNames.map ls) w) := by
  go_enter Tryd.func120, Tryd.ntmps120
  go_wp2
  go_ret
  refine ⟨_, _, rfl, Sl.of_row (Row.new _ _ _) (Rs_strs resNames) (by rfl) (by simp [maxLen]), (Below.refl _ _).alloc (Nat.le_refl _) _⟩
set_option maxRecDepth 20000 in
theorem isReserved_spec (s : ByteArray) (w : World) : Calls Tryd.prog 97 #[.string s] w (RetB (.bool (resB s.toList)) w) := by
  have hP := fun wx (fp : List Nat) (v : Value) (hS : Sl wx (resNames.map ls) fp v) => l1Has_resSpec resNames s fp v wx hS
  rw [hasB_res] at hP
  generalize resB s.toList = b at hP
  go_enter Tryd.func97, Tryd.ntmps97
  go_wp2_with fail
  refine (l2Reserved_spec _).mono ?_
  rintro e w1 ⟨fp, v, rfl, hS, hb⟩
  obtain ⟨A, c, rfl, _, _⟩ := hS.formT
  go_wp2_with fail
  refine (hP _ _ _ hS).mono ?_
  rintro e w2 ⟨rfl, rfl⟩
  go_wp2_with fail
  go_ret
  exact ⟨rfl, hb⟩

set_option maxRecDepth 20000 in
theorem isValidName_spec (s : ByteArray) (hs : s.size ≤ 9223372036854775807) (w : World) : Calls Tryd.prog 70 #[.string s] w (RetB (.bool (wordB s && !resB s.toList)) w) := by
  have hP := fun wx => l2Shape_spec s hs wx
  have hQ := fun wx => isReserved_spec s wx
  unfold wordB
  cases h1 : shapeB s with
  | true =>
    rw [h1] at hP
    rcases ilt 8 (s.size : Int) with h3 | h3
    · have d1 : decide ((s.size : Int) ≤ 8) = false := by simp; omega
      rw [d1]
      clear h1 hQ h3
      go_enter Tryd.func70, Tryd.ntmps70
      go_wp2_with (first | (go_at_call 96; refine (hP _).mono ?_; rintro e w1 ⟨rfl, rfl⟩) | (go_at_call 97; refine (hQ _).mono ?_; rintro e w1 ⟨rfl, hb⟩))
      go_ret
      exact ⟨rfl, Below.refl _ _⟩
    · have d1 : decide ((s.size : Int) ≤ 8) = true := by simp; omega
      rw [d1]
      clear d1
      cases h2 : resB s.toList with
      | true =>
        rw [h2] at hQ
        clear h1 h2
        go_enter Tryd.func70, Tryd.ntmps70
        go_wp2_with (first | (go_at_call 96; refine (hP _).mono ?_; rintro e w1 ⟨rfl, rfl⟩) | (go_at_call 97; refine (hQ _).mono ?_; rintro e w1 ⟨rfl, hb⟩))
        go_ret
        exact ⟨rfl, hb⟩
      | false =>
        rw [h2] at hQ
        clear h1 h2
        go_enter Tryd.func70, Tryd.ntmps70
        go_wp2_with (first | (go_at_call 96; refine (hP _).mono ?_; rintro e w1 ⟨rfl, rfl⟩) | (go_at_call 97; refine (hQ _).mono ?_; rintro e w1 ⟨rfl, hb⟩))
        go_ret
        exact ⟨rfl, hb⟩
  | false =>
    rw [h1] at hP
    clear h1 hQ
    go_enter Tryd.func70, Tryd.ntmps70
    go_wp2_with (first | (go_at_call 96; refine (hP _).mono ?_; rintro e w1 ⟨rfl, rfl⟩) | (go_at_call 97; refine (hQ _).mono ?_; rintro e w1 ⟨rfl, hb⟩))
    go_ret
    exact ⟨rfl, Below.refl _ _⟩
end Go.Proofs.YtdjcflnemnknaaaDoor
