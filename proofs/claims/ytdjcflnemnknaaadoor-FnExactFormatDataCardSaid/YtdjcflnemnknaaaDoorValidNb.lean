/-
  The index of a cell, and what is a valid notebook, in both packages.
-/
import Derived.Test.YtdjcflnemnknaaaDoorValid
namespace Go.Proofs.YtdjcflnemnknaaaDoor
open Go.RowKit
set_option linter.unusedSimpArgs false
set_option linter.unusedVariables false

def idxFrom : List GCell → Int → Nat → Int
  | [], _, _ => -1
  | c :: r, id, k => if c.id == id then (k : Int) else idxFrom r id (k + 1)
/-- The index of the first cell of this id; -1 if there is none. -/
def cellIdx (l : List GCell) (id : Int) : Int := idxFrom l id 0
def validFrom (l : List GCell) : List GCell → Nat → Bool
  | [], _ => true
  | c :: r, k => validCell c && (cellIdx l c.id == (k : Int)) && validFrom l r (k + 1)
def validNb (l : List GCell) : Bool := validFrom l l 0 && decide ((l.length : Int) ≤ 8)

set_option maxHeartbeats 1000000 in
theorem cellIndex_impl (l : List GCell) (id : Int) (fp : List Nat) (v : Value) (w : World) (hS : Sl w (l.map GCell.toD) fp v) : Calls Tryd.prog 76 #[.agg #[v], .int .i64 id] w (RetB (.int .i64 (cellIdx l id)) w) := by
  obtain ⟨A, c, rfl, hl, hc⟩ := hS.formT
  have hm : l.length ≤ 9223372036854775807 := by unfold maxLen at hc; omega
  clear hl hc
  go_enter Tryd.func76, Tryd.ntmps76
  go_wp2_with fail
  go_loopw [10] (fun iv wr => ∃ k : Nat, k ≤ l.length ∧ iv = .int .i64 k ∧ cellIdx l id = idxFrom (l.drop k) id k ∧ Row wr w.heap.size 36 [.slice A l.length c] ∧ Below w.heap.size w wr) (fun iv _ => l.length - (intOf iv).toNat)
  case atStart => exact ⟨0, by omega, rfl, rfl, Row.new _ _ _, (Below.refl _ _).alloc (Nat.le_refl _) _⟩
  case round =>
    obtain ⟨k, hk, rfl, he, hro, hb⟩ := hrel
    have he' := Lib.hid he
    clear he
    have kk := hro.cell
    have hz := hro.lt
    by_cases hlt : k < l.length
    · have hd : (l.map GCell.toD)[k]? = some (GCell.toD l[k]) := by rw [List.getElem?_map, List.getElem?_eq_getElem hlt]; rfl
      obtain ⟨b, o, fi, ci, rfl, hbb, hbf, hri, hfi, hat⟩ := hS.elem GCell.szs hd
      obtain ⟨rfl, rfl⟩ := GCell.opened.1 hri
      have q0 : wr.cell? ⟨b, o + k * 6, none⟩ = some (.int .i64 l[k].id) := (hb.cell (p := ⟨b, o + k * 6, none⟩) hbb).trans (hat.head)
      have q1 : wr.cell? ⟨b, o + k * 6 + 1, none⟩ = some (.int .i64 l[k].ver) := (hb.cell (p := ⟨b, o + k * 6 + 1, none⟩) hbb).trans (hat.nth 1 rfl)
      have q2 : wr.cell? ⟨b, o + k * 6 + 2, none⟩ = some (.int .i64 l[k].kind) := (hb.cell (p := ⟨b, o + k * 6 + 2, none⟩) hbb).trans (hat.nth 2 rfl)
      have q3 : wr.cell? ⟨b, o + k * 6 + 3, none⟩ = some (.string l[k].name) := (hb.cell (p := ⟨b, o + k * 6 + 3, none⟩) hbb).trans (hat.nth 3 rfl)
      have q4 : wr.cell? ⟨b, o + k * 6 + 4, none⟩ = some (.string l[k].code) := (hb.cell (p := ⟨b, o + k * 6 + 4, none⟩) hbb).trans (hat.nth 4 rfl)
      have q5 : wr.cell? ⟨b, o + k * 6 + 5, none⟩ = some (.int .i64 l[k].n) := (hb.cell (p := ⟨b, o + k * 6 + 5, none⟩) hbb).trans (hat.nth 5 rfl)
      clear hat hd hri
      have hst := Lib.hid (show idxFrom (l.drop k) id k = if l[k].id == id then (k : Int) else idxFrom (l.drop (k + 1)) id (k + 1) by rw [List.drop_eq_getElem_cons hlt, idxFrom])
      cases hid : (l[k].id == id) with
      | true =>
        have hf := Lib.hid (show (k : Int) = cellIdx l id by rw [he'.out, hst.out, hid]; rfl)
        go_wp2_with fail
        go_ret
        exact ⟨ret_int hf.out, by first | exact hb | exact hb.alloc (by omega) _⟩
      | false =>
        have hf := Lib.hid (show cellIdx l id = idxFrom (l.drop (k + 1)) id (k + 1) by rw [he'.out, hst.out, hid]; rfl)
        go_wp2_with fail
        go_roundw
        case rel => exact ⟨k + 1, by omega, by go_num, hf.out, by first | exact hro | exact hro.below ((Below.refl _ _).alloc (Nat.le_refl _) _), by first | exact hb | exact hb.alloc (by omega) _⟩
        case measure => (simp [intOf] <;> omega)
    · have hf := Lib.hid (show (-1 : Int) = cellIdx l id by rw [he'.out, List.drop_eq_nil_of_le (by omega)]; rfl)
      go_wp2_with fail
      go_ret
      exact ⟨ret_int hf.out, hb⟩

set_option maxHeartbeats 1000000 in
theorem cellIndex_spec (l : List GCell) (id : Int) (fp : List Nat) (v : Value) (w : World) (hS : Sl w (l.map GCell.toD) fp v) : Calls Tryd.prog 75 #[.agg #[v], .int .i64 id] w (RetB (.int .i64 (cellIdx l id)) w) := by
  obtain ⟨A, c, rfl, hl, hc⟩ := hS.formT
  have hm : l.length ≤ 9223372036854775807 := by unfold maxLen at hc; omega
  clear hl hc
  go_enter Tryd.func75, Tryd.ntmps75
  go_wp2_with fail
  go_loopw [5] (fun iv wr => ∃ k : Nat, k ≤ l.length ∧ iv = .int .i64 k ∧ cellIdx l id = idxFrom (l.drop k) id k ∧ Row wr w.heap.size 36 [.slice A l.length c] ∧ Below w.heap.size w wr) (fun iv _ => l.length - (intOf iv).toNat)
  case atStart => exact ⟨0, by omega, rfl, rfl, Row.new _ _ _, (Below.refl _ _).alloc (Nat.le_refl _) _⟩
  case round =>
    obtain ⟨k, hk, rfl, he, hro, hb⟩ := hrel
    have he' := Lib.hid he
    clear he
    have kk := hro.cell
    have hz := hro.lt
    by_cases hlt : k < l.length
    · have hd : (l.map GCell.toD)[k]? = some (GCell.toD l[k]) := by rw [List.getElem?_map, List.getElem?_eq_getElem hlt]; rfl
      obtain ⟨b, o, fi, ci, rfl, hbb, hbf, hri, hfi, hat⟩ := hS.elem GCell.szs hd
      obtain ⟨rfl, rfl⟩ := GCell.opened.1 hri
      have q0 : wr.cell? ⟨b, o + k * 6, none⟩ = some (.int .i64 l[k].id) := (hb.cell (p := ⟨b, o + k * 6, none⟩) hbb).trans (hat.head)
      have q1 : wr.cell? ⟨b, o + k * 6 + 1, none⟩ = some (.int .i64 l[k].ver) := (hb.cell (p := ⟨b, o + k * 6 + 1, none⟩) hbb).trans (hat.nth 1 rfl)
      have q2 : wr.cell? ⟨b, o + k * 6 + 2, none⟩ = some (.int .i64 l[k].kind) := (hb.cell (p := ⟨b, o + k * 6 + 2, none⟩) hbb).trans (hat.nth 2 rfl)
      have q3 : wr.cell? ⟨b, o + k * 6 + 3, none⟩ = some (.string l[k].name) := (hb.cell (p := ⟨b, o + k * 6 + 3, none⟩) hbb).trans (hat.nth 3 rfl)
      have q4 : wr.cell? ⟨b, o + k * 6 + 4, none⟩ = some (.string l[k].code) := (hb.cell (p := ⟨b, o + k * 6 + 4, none⟩) hbb).trans (hat.nth 4 rfl)
      have q5 : wr.cell? ⟨b, o + k * 6 + 5, none⟩ = some (.int .i64 l[k].n) := (hb.cell (p := ⟨b, o + k * 6 + 5, none⟩) hbb).trans (hat.nth 5 rfl)
      clear hat hd hri
      have hst := Lib.hid (show idxFrom (l.drop k) id k = if l[k].id == id then (k : Int) else idxFrom (l.drop (k + 1)) id (k + 1) by rw [List.drop_eq_getElem_cons hlt, idxFrom])
      cases hid : (l[k].id == id) with
      | true =>
        have hf := Lib.hid (show (k : Int) = cellIdx l id by rw [he'.out, hst.out, hid]; rfl)
        go_wp2_with fail
        go_ret
        exact ⟨ret_int hf.out, by first | exact hb | exact hb.alloc (by omega) _⟩
      | false =>
        have hf := Lib.hid (show cellIdx l id = idxFrom (l.drop (k + 1)) id (k + 1) by rw [he'.out, hst.out, hid]; rfl)
        go_wp2_with fail
        go_roundw
        case rel => exact ⟨k + 1, by omega, by go_num, hf.out, by first | exact hro | exact hro.below ((Below.refl _ _).alloc (Nat.le_refl _) _), by first | exact hb | exact hb.alloc (by omega) _⟩
        case measure => (simp [intOf] <;> omega)
    · have hf := Lib.hid (show (-1 : Int) = cellIdx l id by rw [he'.out, List.drop_eq_nil_of_le (by omega)]; rfl)
      go_wp2_with fail
      go_ret
      exact ⟨ret_int hf.out, hb⟩

theorem wfs_get {l : List GCell} (h : D.wfs (l.map GCell.toD)) {k : Nat} (hk : k < l.length) : (l[k]).toD.wf := D.wfs_get h (List.mem_map_of_mem (f := GCell.toD) (List.getElem_mem hk))

set_option maxHeartbeats 4000000 in
theorem isValidNotebook_impl (l : List GCell) (fp : List Nat) (v : Value) (w : World) (hS : Sl w (l.map GCell.toD) fp v) (hw : D.wfs (l.map GCell.toD)) : Calls Tryd.prog 40 #[.agg #[v]] w (RetB (.bool (validNb l)) w) := by
  have hI : ∀ (wx : World) (id : Int), Below w.heap.size w wx → Calls Tryd.prog 76 #[.agg #[v], .int .i64 id] wx (RetB (.int .i64 (cellIdx l id)) wx) := fun wx id h => cellIndex_impl l id fp v wx (hS.below h)
  obtain ⟨A, c, rfl, hl, hc⟩ := hS.formT
  have hm : l.length ≤ 9223372036854775807 := by unfold maxLen at hc; omega
  clear hl hc
  go_enter Tryd.func40, Tryd.ntmps40
  go_wp2_with fail
  go_loopw [8] (fun iv wr => ∃ k : Nat, k ≤ l.length ∧ iv = .int .i64 k ∧ validFrom l l 0 = validFrom l (l.drop k) k ∧ Row wr w.heap.size 36 [.slice A l.length c] ∧ Below w.heap.size w wr) (fun iv _ => l.length - (intOf iv).toNat)
  case atStart => exact ⟨0, by omega, rfl, rfl, Row.new _ _ _, (Below.refl _ _).alloc (Nat.le_refl _) _⟩
  case round =>
    obtain ⟨k, hk, rfl, he, hro, hb⟩ := hrel
    have he' := Lib.hid he
    clear he
    have kk := hro.cell
    have hz := hro.lt
    by_cases hlt : k < l.length
    · have hd : (l.map GCell.toD)[k]? = some (GCell.toD l[k]) := by rw [List.getElem?_map, List.getElem?_eq_getElem hlt]; rfl
      obtain ⟨b, o, fi, ci, rfl, hbb, hbf, hri, hfi, hat⟩ := hS.elem GCell.szs hd
      obtain ⟨rfl, rfl⟩ := GCell.opened.1 hri
      have q0 : wr.cell? ⟨b, o + k * 6, none⟩ = some (.int .i64 l[k].id) := (hb.cell (p := ⟨b, o + k * 6, none⟩) hbb).trans (hat.head)
      have q1 : wr.cell? ⟨b, o + k * 6 + 1, none⟩ = some (.int .i64 l[k].ver) := (hb.cell (p := ⟨b, o + k * 6 + 1, none⟩) hbb).trans (hat.nth 1 rfl)
      have q2 : wr.cell? ⟨b, o + k * 6 + 2, none⟩ = some (.int .i64 l[k].kind) := (hb.cell (p := ⟨b, o + k * 6 + 2, none⟩) hbb).trans (hat.nth 2 rfl)
      have q3 : wr.cell? ⟨b, o + k * 6 + 3, none⟩ = some (.string l[k].name) := (hb.cell (p := ⟨b, o + k * 6 + 3, none⟩) hbb).trans (hat.nth 3 rfl)
      have q4 : wr.cell? ⟨b, o + k * 6 + 4, none⟩ = some (.string l[k].code) := (hb.cell (p := ⟨b, o + k * 6 + 4, none⟩) hbb).trans (hat.nth 4 rfl)
      have q5 : wr.cell? ⟨b, o + k * 6 + 5, none⟩ = some (.int .i64 l[k].n) := (hb.cell (p := ⟨b, o + k * 6 + 5, none⟩) hbb).trans (hat.nth 5 rfl)
      clear hat hd hri
      have hst := Lib.hid (show validFrom l (l.drop k) k = (validCell l[k] && (cellIdx l l[k].id == (k : Int)) && validFrom l (l.drop (k + 1)) (k + 1)) by rw [List.drop_eq_getElem_cons hlt, validFrom])
      have hV := fun wx => isValidCell_impl l[k] (wfs_get hw hlt) wx
      go_wp2_with fail
      refine (hV _).mono ?_
      clear hV
      cases hc1 : validCell l[k] with
      | false =>
        have hf := Lib.hid (show false = validNb l by unfold validNb; rw [he'.out, hst.out, hc1]; rfl)
        rintro e w1 ⟨rfl, hb1⟩
        go_wp2_with fail
        go_ret
        exact ⟨ret_bool hf.out, (hb.alloc (by omega) _).trans (hb1.mono (by simp; omega))⟩
      | true =>
        rintro e w1 ⟨rfl, hb1⟩
        obtain ⟨hr1, hz1, L1⟩ := rows1 hb1
        have r1 := hro.below L1
        have k1 := hr1.cell
        have k2 := r1.cell
        have B1 : Below w.heap.size w w1 := hb.trans (L1.mono (by omega))
        go_wp2_with fail
        refine (hI _ _ B1).mono ?_
        cases hc2 : (cellIdx l l[k].id == (k : Int)) with
        | false =>
          have hf := Lib.hid (show false = validNb l by unfold validNb; rw [he'.out, hst.out, hc1, hc2]; rfl)
          have hne : (cellIdx l l[k].id != (k : Int)) = true := by simp [bne, hc2]
          generalize cellIdx l l[k].id = ix at *
          clear hc2
          rintro e w2 ⟨rfl, hb2⟩
          go_wp2_with fail
          go_ret
          exact ⟨ret_bool hf.out, B1.trans (hb2.mono (by have := B1.size; omega))⟩
        | true =>
          have hf := Lib.hid (show validFrom l l 0 = validFrom l (l.drop (k + 1)) (k + 1) by rw [he'.out, hst.out, hc1, hc2]; rfl)
          have hne : (cellIdx l l[k].id != (k : Int)) = false := by simp [bne, hc2]
          generalize cellIdx l l[k].id = ix at *
          clear hc2
          rintro e w2 ⟨rfl, hb2⟩
          go_wp2_with fail
          go_roundw
          case rel => exact ⟨k + 1, by omega, by go_num, hf.out, r1.below hb2, B1.trans (hb2.mono (by have := B1.size; omega))⟩
          case measure => (simp [intOf] <;> omega)
    · have hf := Lib.hid (show decide ((l.length : Int) ≤ 8) = validNb l by unfold validNb; rw [he'.out, List.drop_eq_nil_of_le (by omega)]; rfl)
      go_wp2_with fail
      go_ret
      exact ⟨ret_bool hf.out, hb⟩
set_option maxHeartbeats 4000000 in
theorem isValidNotebook_spec (l : List GCell) (fp : List Nat) (v : Value) (w : World) (hS : Sl w (l.map GCell.toD) fp v) (hw : D.wfs (l.map GCell.toD)) : Calls Tryd.prog 38 #[.agg #[v]] w (RetB (.bool (validNb l)) w) := by
  have hI : ∀ (wx : World) (id : Int), Below w.heap.size w wx → Calls Tryd.prog 75 #[.agg #[v], .int .i64 id] wx (RetB (.int .i64 (cellIdx l id)) wx) := fun wx id h => cellIndex_spec l id fp v wx (hS.below h)
  obtain ⟨A, c, rfl, hl, hc⟩ := hS.formT
  have hm : l.length ≤ 9223372036854775807 := by unfold maxLen at hc; omega
  clear hl hc
  go_enter Tryd.func38, Tryd.ntmps38
  go_wp2_with fail
  go_loopw [3] (fun iv wr => ∃ k : Nat, k ≤ l.length ∧ iv = .int .i64 k ∧ validFrom l l 0 = validFrom l (l.drop k) k ∧ Row wr w.heap.size 36 [.slice A l.length c] ∧ Below w.heap.size w wr) (fun iv _ => l.length - (intOf iv).toNat)
  case atStart => exact ⟨0, by omega, rfl, rfl, Row.new _ _ _, (Below.refl _ _).alloc (Nat.le_refl _) _⟩
  case round =>
    obtain ⟨k, hk, rfl, he, hro, hb⟩ := hrel
    have he' := Lib.hid he
    clear he
    have kk := hro.cell
    have hz := hro.lt
    by_cases hlt : k < l.length
    · have hd : (l.map GCell.toD)[k]? = some (GCell.toD l[k]) := by rw [List.getElem?_map, List.getElem?_eq_getElem hlt]; rfl
      obtain ⟨b, o, fi, ci, rfl, hbb, hbf, hri, hfi, hat⟩ := hS.elem GCell.szs hd
      obtain ⟨rfl, rfl⟩ := GCell.opened.1 hri
      have q0 : wr.cell? ⟨b, o + k * 6, none⟩ = some (.int .i64 l[k].id) := (hb.cell (p := ⟨b, o + k * 6, none⟩) hbb).trans (hat.head)
      have q1 : wr.cell? ⟨b, o + k * 6 + 1, none⟩ = some (.int .i64 l[k].ver) := (hb.cell (p := ⟨b, o + k * 6 + 1, none⟩) hbb).trans (hat.nth 1 rfl)
      have q2 : wr.cell? ⟨b, o + k * 6 + 2, none⟩ = some (.int .i64 l[k].kind) := (hb.cell (p := ⟨b, o + k * 6 + 2, none⟩) hbb).trans (hat.nth 2 rfl)
      have q3 : wr.cell? ⟨b, o + k * 6 + 3, none⟩ = some (.string l[k].name) := (hb.cell (p := ⟨b, o + k * 6 + 3, none⟩) hbb).trans (hat.nth 3 rfl)
      have q4 : wr.cell? ⟨b, o + k * 6 + 4, none⟩ = some (.string l[k].code) := (hb.cell (p := ⟨b, o + k * 6 + 4, none⟩) hbb).trans (hat.nth 4 rfl)
      have q5 : wr.cell? ⟨b, o + k * 6 + 5, none⟩ = some (.int .i64 l[k].n) := (hb.cell (p := ⟨b, o + k * 6 + 5, none⟩) hbb).trans (hat.nth 5 rfl)
      clear hat hd hri
      have hst := Lib.hid (show validFrom l (l.drop k) k = (validCell l[k] && (cellIdx l l[k].id == (k : Int)) && validFrom l (l.drop (k + 1)) (k + 1)) by rw [List.drop_eq_getElem_cons hlt, validFrom])
      have hV := fun wx => isValidCell_spec l[k] (wfs_get hw hlt) wx
      have hbr : b < wr.heap.size := Nat.lt_of_lt_of_le hbb hb.size
      have hi1 : 0 ≤ (k : Int) := by omega
      have hi2 : (k : Int) < l.length := by omega
      cases hc1 : validCell l[k] with
      | false =>
        have hf := Lib.hid (show false = validNb l by unfold validNb; rw [he'.out, hst.out, hc1]; rfl)
        rw [hc1] at hV
        clear hc1
        go_wp2_with fail
        refine wp_region_held_drew (S := (fun w' => w'.cell? ⟨w.heap.size, 0, none⟩ = some (.slice (some ⟨b, o, none⟩) l.length c) ∧ w'.cell? ⟨b, o + k * 6, none⟩ = some (.int .i64 l[k].id) ∧ w'.cell? ⟨b, o + k * 6 + 1, none⟩ = some (.int .i64 l[k].ver) ∧ w'.cell? ⟨b, o + k * 6 + 2, none⟩ = some (.int .i64 l[k].kind) ∧ w'.cell? ⟨b, o + k * 6 + 3, none⟩ = some (.string l[k].name) ∧ w'.cell? ⟨b, o + k * 6 + 4, none⟩ = some (.string l[k].code) ∧ w'.cell? ⟨b, o + k * 6 + 5, none⟩ = some (.int .i64 l[k].n))) (by kernel_rfl) ?_ (fun hHeld => ?_)
        · go_keep
        refine wpAnyH_take (i := 0) (v := ?_) rfl (by kernel_rfl) (by kernel_rfl) (by kernel_rfl) (fun _ _ _ h => h) (Or.inl ⟨by rfl, ?_⟩) (by assumption) ?_
        rotate_left
        · intro w hSw
          try dsimp only at hSw
          go_simp
          try with_reducible rfl
        try simp only [Act.put, List.getElem_toArray, List.getElem_cons_succ, List.getElem_cons_zero, List.setIfInBounds_toArray, List.set_cons_zero, List.set_cons_succ]
        refine wpAnyH_take (i := 1) (v := ?_) rfl (by kernel_rfl) (by kernel_rfl) (by kernel_rfl) (fun _ _ _ h => h) (Or.inl ⟨by rfl, ?_⟩) (by assumption) ?_
        rotate_left
        · intro w hSw
          try dsimp only at hSw
          go_simp
          try with_reducible rfl
        try simp only [Act.put, List.getElem_toArray, List.getElem_cons_succ, List.getElem_cons_zero, List.setIfInBounds_toArray, List.set_cons_zero, List.set_cons_succ]
        refine wpAnyH_take (i := 2) (v := ?_) rfl (by kernel_rfl) (by kernel_rfl) (by kernel_rfl) (fun _ _ _ h => h) (Or.inl ⟨by rfl, ?_⟩) (by assumption) ?_
        rotate_left
        · intro w hSw
          try dsimp only at hSw
          go_simp
          try with_reducible rfl
        try simp only [Act.put, List.getElem_toArray, List.getElem_cons_succ, List.getElem_cons_zero, List.setIfInBounds_toArray, List.set_cons_zero, List.set_cons_succ]
        refine wpAnyH_take (i := 3) (v := ?_) rfl (by kernel_rfl) (by kernel_rfl) (by kernel_rfl) (fun _ _ _ h => h) (Or.inl ⟨by rfl, ?_⟩) (by assumption) ?_
        rotate_left
        · intro w hSw
          try dsimp only at hSw
          go_simp
          try with_reducible rfl
        try simp only [Act.put, List.getElem_toArray, List.getElem_cons_succ, List.getElem_cons_zero, List.setIfInBounds_toArray, List.set_cons_zero, List.set_cons_succ]
        refine wpAnyH_take (i := 4) (v := ?_) rfl (by kernel_rfl) (by kernel_rfl) (by kernel_rfl) (fun _ _ _ h => h) (Or.inl ⟨by rfl, ?_⟩) (by assumption) ?_
        rotate_left
        · intro w hSw
          try dsimp only at hSw
          go_simp
          try with_reducible rfl
        try simp only [Act.put, List.getElem_toArray, List.getElem_cons_succ, List.getElem_cons_zero, List.setIfInBounds_toArray, List.set_cons_zero, List.set_cons_succ]
        refine wpAnyH_ready (rs := [5]) (by kernel_rfl) (by simp) ?_
        refine AllReadyH.cons rfl (fun K hK => ?_) AllReadyH.nil
        go_simp
        refine (hV _).mono ?_
        rintro e w1 ⟨rfl, hb1⟩
        have L1 : Below wr.heap.size wr w1 := (Below.refl _ _).drew.trans hb1
        have r1 := hro.below L1
        have k1 := r1.cell
        have c1 : ∀ o, w1.cell? ⟨b, o, none⟩ = wr.cell? ⟨b, o, none⟩ := fun o => L1.cell (p := ⟨b, o, none⟩) hbr
        have B1 : Below w.heap.size w w1 := hb.trans (L1.mono (by omega))
        refine hK.out _ _ ?_ (fun hHeld1 => ?_)
        · go_keep
        clear hK K
        try simp only [Act.put, List.getElem_toArray, List.getElem_cons_succ, List.getElem_cons_zero, List.setIfInBounds_toArray, List.set_cons_zero, List.set_cons_succ]
        refine wpAnyH_take (i := 6) (v := ?_) rfl (by kernel_rfl) (by kernel_rfl) (by kernel_rfl) (fun _ _ _ h => h) (Or.inl ⟨by rfl, ?_⟩) (by assumption) ?_
        rotate_left
        · intro w hSw
          try dsimp only at hSw
          go_simp
          try with_reducible rfl
        try simp only [Act.put, List.getElem_toArray, List.getElem_cons_succ, List.getElem_cons_zero, List.setIfInBounds_toArray, List.set_cons_zero, List.set_cons_succ]
        refine wpAnyH_take (i := 7) (v := ?_) rfl (by kernel_rfl) (by kernel_rfl) (by kernel_rfl) (fun _ _ _ h => h) (Or.inl ⟨by rfl, ?_⟩) (by assumption) ?_
        rotate_left
        · intro w hSw
          try dsimp only at hSw
          go_simp
          try with_reducible rfl
        try simp only [Act.put, List.getElem_toArray, List.getElem_cons_succ, List.getElem_cons_zero, List.setIfInBounds_toArray, List.set_cons_zero, List.set_cons_succ]
        refine wpAnyH_take (i := 8) (v := undef) rfl (by kernel_rfl) (by kernel_rfl) (by kernel_rfl) (fun _ _ _ h => h) (Or.inr ⟨by rfl, rfl⟩) (by assumption) ?_
        try simp only [Act.put, List.getElem_toArray, List.getElem_cons_succ, List.getElem_cons_zero, List.setIfInBounds_toArray, List.set_cons_zero, List.set_cons_succ]
        refine wpAnyH_take (i := 9) (v := undef) rfl (by kernel_rfl) (by kernel_rfl) (by kernel_rfl) (fun _ _ _ h => h) (Or.inr ⟨by rfl, rfl⟩) (by assumption) ?_
        try simp only [Act.put, List.getElem_toArray, List.getElem_cons_succ, List.getElem_cons_zero, List.setIfInBounds_toArray, List.set_cons_zero, List.set_cons_succ]
        refine wpAnyH_take (i := 10) (v := undef) rfl (by kernel_rfl) (by kernel_rfl) (by kernel_rfl) (fun _ _ _ h => h) (Or.inr ⟨by rfl, rfl⟩) (by assumption) ?_
        try simp only [Act.put, List.getElem_toArray, List.getElem_cons_succ, List.getElem_cons_zero, List.setIfInBounds_toArray, List.set_cons_zero, List.set_cons_succ]
        refine wpAnyH_take (i := 11) (v := undef) rfl (by kernel_rfl) (by kernel_rfl) (by kernel_rfl) (fun _ _ _ h => h) (Or.inr ⟨by rfl, rfl⟩) (by assumption) ?_
        try simp only [Act.put, List.getElem_toArray, List.getElem_cons_succ, List.getElem_cons_zero, List.setIfInBounds_toArray, List.set_cons_zero, List.set_cons_succ]
        refine wpAnyH_take (i := 12) (v := undef) rfl (by kernel_rfl) (by kernel_rfl) (by kernel_rfl) (fun _ _ _ h => h) (Or.inr ⟨by rfl, rfl⟩) (by assumption) ?_
        try simp only [Act.put, List.getElem_toArray, List.getElem_cons_succ, List.getElem_cons_zero, List.setIfInBounds_toArray, List.set_cons_zero, List.set_cons_succ]
        refine wpAnyH_take (i := 13) (v := undef) rfl (by kernel_rfl) (by kernel_rfl) (by kernel_rfl) (fun _ _ _ h => h) (Or.inr ⟨by rfl, rfl⟩) (by assumption) ?_
        try simp only [Act.put, List.getElem_toArray, List.getElem_cons_succ, List.getElem_cons_zero, List.setIfInBounds_toArray, List.set_cons_zero, List.set_cons_succ]
        refine wpAnyH_take (i := 14) (v := undef) rfl (by kernel_rfl) (by kernel_rfl) (by kernel_rfl) (fun _ _ _ h => h) (Or.inr ⟨by rfl, rfl⟩) (by assumption) ?_
        try simp only [Act.put, List.getElem_toArray, List.getElem_cons_succ, List.getElem_cons_zero, List.setIfInBounds_toArray, List.set_cons_zero, List.set_cons_succ]
        refine wpAnyH_take (i := 15) (v := undef) rfl (by kernel_rfl) (by kernel_rfl) (by kernel_rfl) (fun _ _ _ h => h) (Or.inr ⟨by rfl, rfl⟩) (by assumption) ?_
        try simp only [Act.put, List.getElem_toArray, List.getElem_cons_succ, List.getElem_cons_zero, List.setIfInBounds_toArray, List.set_cons_zero, List.set_cons_succ]
        refine wpAnyH_take (i := 16) (v := undef) rfl (by kernel_rfl) (by kernel_rfl) (by kernel_rfl) (fun _ _ _ h => h) (Or.inr ⟨by rfl, rfl⟩) (by assumption) ?_
        try simp only [Act.put, List.getElem_toArray, List.getElem_cons_succ, List.getElem_cons_zero, List.setIfInBounds_toArray, List.set_cons_zero, List.set_cons_succ]
        refine wpAnyH_take (i := 17) (v := undef) rfl (by kernel_rfl) (by kernel_rfl) (by kernel_rfl) (fun _ _ _ h => h) (Or.inr ⟨by rfl, rfl⟩) (by assumption) ?_
        try simp only [Act.put, List.getElem_toArray, List.getElem_cons_succ, List.getElem_cons_zero, List.setIfInBounds_toArray, List.set_cons_zero, List.set_cons_succ]
        refine wpAnyH_take (i := 18) (v := ?_) rfl (by kernel_rfl) (by kernel_rfl) (by kernel_rfl) (fun _ _ _ h => h) (Or.inl ⟨by rfl, ?_⟩) (by assumption) ?_
        rotate_left
        · intro w hSw
          try dsimp only at hSw
          go_simp
          try with_reducible rfl
        try simp only [Act.put, List.getElem_toArray, List.getElem_cons_succ, List.getElem_cons_zero, List.setIfInBounds_toArray, List.set_cons_zero, List.set_cons_succ]
        refine wpAnyH_done (by kernel_rfl) ?_ _
        go_wp2_with fail
        go_ret
        exact ⟨ret_bool hf.out, B1⟩
      | true =>
        rw [hc1] at hV
        cases hc2 : (cellIdx l l[k].id == (k : Int)) with
        | false =>
          have hf := Lib.hid (show false = validNb l by unfold validNb; rw [he'.out, hst.out, hc1, hc2]; rfl)
          have hne : (cellIdx l l[k].id != (k : Int)) = true := by simp [bne, hc2]
          clear hc1 hc2
          go_wp2_with fail
          go_region_held3 (fun w' => w'.cell? ⟨w.heap.size, 0, none⟩ = some (.slice (some ⟨b, o, none⟩) l.length c) ∧ w'.cell? ⟨b, o + k * 6, none⟩ = some (.int .i64 l[k].id) ∧ w'.cell? ⟨b, o + k * 6 + 1, none⟩ = some (.int .i64 l[k].ver) ∧ w'.cell? ⟨b, o + k * 6 + 2, none⟩ = some (.int .i64 l[k].kind) ∧ w'.cell? ⟨b, o + k * 6 + 3, none⟩ = some (.string l[k].name) ∧ w'.cell? ⟨b, o + k * 6 + 4, none⟩ = some (.string l[k].code) ∧ w'.cell? ⟨b, o + k * 6 + 5, none⟩ = some (.int .i64 l[k].n)) (go_keep)
            (first | (go_at_call 32; refine (hV _).mono ?_; rintro e w1 ⟨rfl, hb1⟩; have L1 : Below wr.heap.size wr w1 := (Below.refl _ _).drew.trans hb1; have r1 := hro.below L1; have k1 := r1.cell; have c1 : ∀ o, w1.cell? ⟨b, o, none⟩ = wr.cell? ⟨b, o, none⟩ := fun o => L1.cell (p := ⟨b, o, none⟩) hbr; have B1 : Below w.heap.size w w1 := hb.trans (L1.mono (by omega))) | (go_at_call 75; refine (hI _ _ B1).mono ?_; rintro e w2 ⟨rfl, hb2⟩; have r2 := r1.below hb2; have k2 := r2.cell; have c2 : ∀ o, w2.cell? ⟨b, o, none⟩ = w1.cell? ⟨b, o, none⟩ := fun o => hb2.cell (p := ⟨b, o, none⟩) (Nat.lt_of_lt_of_le hbr L1.size); have B2 : Below w.heap.size w w2 := B1.trans (hb2.mono (by have := B1.size; omega))))
          go_wp2_with fail
          go_ret
          exact ⟨ret_bool hf.out, B2⟩
        | true =>
          have hf := Lib.hid (show validFrom l l 0 = validFrom l (l.drop (k + 1)) (k + 1) by rw [he'.out, hst.out, hc1, hc2]; rfl)
          have hne : (cellIdx l l[k].id != (k : Int)) = false := by simp [bne, hc2]
          clear hc1 hc2
          go_wp2_with fail
          go_region_held3 (fun w' => w'.cell? ⟨w.heap.size, 0, none⟩ = some (.slice (some ⟨b, o, none⟩) l.length c) ∧ w'.cell? ⟨b, o + k * 6, none⟩ = some (.int .i64 l[k].id) ∧ w'.cell? ⟨b, o + k * 6 + 1, none⟩ = some (.int .i64 l[k].ver) ∧ w'.cell? ⟨b, o + k * 6 + 2, none⟩ = some (.int .i64 l[k].kind) ∧ w'.cell? ⟨b, o + k * 6 + 3, none⟩ = some (.string l[k].name) ∧ w'.cell? ⟨b, o + k * 6 + 4, none⟩ = some (.string l[k].code) ∧ w'.cell? ⟨b, o + k * 6 + 5, none⟩ = some (.int .i64 l[k].n)) (go_keep)
            (first | (go_at_call 32; refine (hV _).mono ?_; rintro e w1 ⟨rfl, hb1⟩; have L1 : Below wr.heap.size wr w1 := (Below.refl _ _).drew.trans hb1; have r1 := hro.below L1; have k1 := r1.cell; have c1 : ∀ o, w1.cell? ⟨b, o, none⟩ = wr.cell? ⟨b, o, none⟩ := fun o => L1.cell (p := ⟨b, o, none⟩) hbr; have B1 : Below w.heap.size w w1 := hb.trans (L1.mono (by omega))) | (go_at_call 75; refine (hI _ _ B1).mono ?_; rintro e w2 ⟨rfl, hb2⟩; have r2 := r1.below hb2; have k2 := r2.cell; have c2 : ∀ o, w2.cell? ⟨b, o, none⟩ = w1.cell? ⟨b, o, none⟩ := fun o => hb2.cell (p := ⟨b, o, none⟩) (Nat.lt_of_lt_of_le hbr L1.size); have B2 : Below w.heap.size w w2 := B1.trans (hb2.mono (by have := B1.size; omega))))
          go_wp2_with fail
          go_roundw
          case rel => exact ⟨k + 1, by omega, by go_num, hf.out, r2, B2⟩
          case measure => (simp [intOf] <;> omega)
    · have hf := Lib.hid (show decide ((l.length : Int) ≤ 8) = validNb l by unfold validNb; rw [he'.out, List.drop_eq_nil_of_le (by omega)]; rfl)
      go_wp2_with fail
      go_ret
      exact ⟨ret_bool hf.out, hb⟩
end Go.Proofs.YtdjcflnemnknaaaDoor
