/-
  The laws' functions that hold two values against each other (eqCell, eqCellS ..): of equal data each answers true.
-/
import Derived.Test.YtokplliaejbbdaaTypes
import Derived.Test.YtokplliaejbbdaaProg
namespace Go.Proofs.Ytokplliaejbbdaa
open Go.RowKit
set_option linter.unusedSimpArgs false
set_option linter.unusedVariables false

set_option maxHeartbeats 2000000 in
theorem IntS_eqSaid_of (l : List Int) : EqsSaid Try.prog 22 (l.map li) := by
  intro w f1 f2 v1 v2 hS1 hS2
  obtain ⟨A, c, rfl, hl, hc⟩ := hS1.formT
  obtain ⟨A', c', rfl, hl', hc'⟩ := hS2.formT
  have hm : l.length ≤ 9223372036854775807 := by unfold maxLen at hc; omega
  clear hl hc hl' hc'
  go_enter Try.func22, Try.ntmps22
  go_wp2_with fail
  go_loopw [5] (fun iv wr => ∃ (k : Nat), k ≤ l.length ∧ iv = .int .i64 k ∧ Below w.heap.size w wr) (fun iv _ => l.length - (intOf iv).toNat)
  case atStart => exact ⟨0, by omega, rfl, Below.refl _ _⟩
  case round =>
    obtain ⟨k, hk, rfl, hb⟩ := hrel
    by_cases hlt : k < l.length
    · have hd : (l.map li)[k]? = some (li l[k]) := by rw [List.getElem?_map, List.getElem?_eq_getElem hlt]; rfl
      obtain ⟨b1, o1, fi1, ci1, rfl, hbb1, hbf1, hri1, hfi1, hat1⟩ := hS1.elem li_szs hd
      obtain ⟨b2, o2, fi2, ci2, rfl, hbb2, hbf2, hri2, hfi2, hat2⟩ := hS2.elem li_szs hd
      have hi1 : 0 ≤ (k : Int) := by omega
      have hi2 : (k : Int) < l.length := by omega
      have hri1' := hri1
      have hri2' := hri2
      obtain ⟨rfl, rfl⟩ := hri1
      have q10 : wr.cell? ⟨b1, o1 + k, none⟩ = some (.int .i64 l[k]) := (hb.cell (p := ⟨b1, o1 + k, none⟩) hbb1).trans (by simpa using hat1.head)
      obtain ⟨rfl, rfl⟩ := hri2
      have q20 : wr.cell? ⟨b2, o2 + k, none⟩ = some (.int .i64 l[k]) := (hb.cell (p := ⟨b2, o2 + k, none⟩) hbb2).trans (by simpa using hat2.head)
      clear hat1 hat2 hd
      go_wp2_with fail
      go_quiet (fail)
      go_wp2_with fail
      go_roundw
      case rel => exact ⟨k + 1, by omega, by go_num, below_drewN hb _⟩
      case measure => simp [intOf]; omega
    · go_wp2_with fail
      go_ret
      exact ⟨rfl, hb⟩

theorem IntS_eqSaid (l : List Int) : EqsSaid Try.prog 22 (l.map li) := IntS_eqSaid_of l

set_option maxHeartbeats 1000000 in
theorem GCell.eqSaid_of (x : GCell) : EqSaid Try.prog 47 x.toD := by
  intro w f1 f2 cs1 cs2 hR hR2
  obtain ⟨rfl, rfl⟩ := GCell.opened.1 hR
  clear hR
  obtain ⟨rfl, rfl⟩ := GCell.opened.1 hR2
  clear hR2
  go_enter Try.func47, Try.ntmps47
  go_wp2_with fail
  go_ret
  exact ⟨rfl, ((Below.refl _ _).alloc (Nat.le_refl _) _).alloc (by simp) _⟩

set_option maxHeartbeats 2000000 in
theorem CellS_eqSaid_of (l : List GCell) (hE : ∀ x ∈ l, EqSaid Try.prog 47 x.toD) : EqsSaid Try.prog 43 (l.map GCell.toD) := by
  intro w f1 f2 v1 v2 hS1 hS2
  obtain ⟨A, c, rfl, hl, hc⟩ := hS1.formT
  obtain ⟨A', c', rfl, hl', hc'⟩ := hS2.formT
  have hm : l.length ≤ 9223372036854775807 := by unfold maxLen at hc; omega
  clear hl hc hl' hc'
  go_enter Try.func43, Try.ntmps43
  go_wp2_with fail
  go_loopw [5] (fun iv wr => ∃ (k : Nat), k ≤ l.length ∧ iv = .int .i64 k ∧ Below w.heap.size w wr) (fun iv _ => l.length - (intOf iv).toNat)
  case atStart => exact ⟨0, by omega, rfl, Below.refl _ _⟩
  case round =>
    obtain ⟨k, hk, rfl, hb⟩ := hrel
    by_cases hlt : k < l.length
    · have hd : (l.map GCell.toD)[k]? = some (GCell.toD l[k]) := by rw [List.getElem?_map, List.getElem?_eq_getElem hlt]; rfl
      obtain ⟨b1, o1, fi1, ci1, rfl, hbb1, hbf1, hri1, hfi1, hat1⟩ := hS1.elem GCell.szs hd
      obtain ⟨b2, o2, fi2, ci2, rfl, hbb2, hbf2, hri2, hfi2, hat2⟩ := hS2.elem GCell.szs hd
      have hi1 : 0 ≤ (k : Int) := by omega
      have hi2 : (k : Int) < l.length := by omega
      have hri1' := hri1
      have hri2' := hri2
      obtain ⟨rfl, rfl⟩ := GCell.opened.1 hri1
      have q10 : wr.cell? ⟨b1, o1 + k * 6, none⟩ = some (.int .i64 l[k].id) := (hb.cell (p := ⟨b1, o1 + k * 6, none⟩) hbb1).trans (hat1.head)
      have q11 : wr.cell? ⟨b1, o1 + k * 6 + 1, none⟩ = some (.int .i64 l[k].ver) := (hb.cell (p := ⟨b1, o1 + k * 6 + 1, none⟩) hbb1).trans (hat1.nth 1 rfl)
      have q12 : wr.cell? ⟨b1, o1 + k * 6 + 2, none⟩ = some (.int .i64 l[k].kind) := (hb.cell (p := ⟨b1, o1 + k * 6 + 2, none⟩) hbb1).trans (hat1.nth 2 rfl)
      have q13 : wr.cell? ⟨b1, o1 + k * 6 + 3, none⟩ = some (.string l[k].name) := (hb.cell (p := ⟨b1, o1 + k * 6 + 3, none⟩) hbb1).trans (hat1.nth 3 rfl)
      have q14 : wr.cell? ⟨b1, o1 + k * 6 + 4, none⟩ = some (.string l[k].code) := (hb.cell (p := ⟨b1, o1 + k * 6 + 4, none⟩) hbb1).trans (hat1.nth 4 rfl)
      have q15 : wr.cell? ⟨b1, o1 + k * 6 + 5, none⟩ = some (.int .i64 l[k].n) := (hb.cell (p := ⟨b1, o1 + k * 6 + 5, none⟩) hbb1).trans (hat1.nth 5 rfl)
      obtain ⟨rfl, rfl⟩ := GCell.opened.1 hri2
      have q20 : wr.cell? ⟨b2, o2 + k * 6, none⟩ = some (.int .i64 l[k].id) := (hb.cell (p := ⟨b2, o2 + k * 6, none⟩) hbb2).trans (hat2.head)
      have q21 : wr.cell? ⟨b2, o2 + k * 6 + 1, none⟩ = some (.int .i64 l[k].ver) := (hb.cell (p := ⟨b2, o2 + k * 6 + 1, none⟩) hbb2).trans (hat2.nth 1 rfl)
      have q22 : wr.cell? ⟨b2, o2 + k * 6 + 2, none⟩ = some (.int .i64 l[k].kind) := (hb.cell (p := ⟨b2, o2 + k * 6 + 2, none⟩) hbb2).trans (hat2.nth 2 rfl)
      have q23 : wr.cell? ⟨b2, o2 + k * 6 + 3, none⟩ = some (.string l[k].name) := (hb.cell (p := ⟨b2, o2 + k * 6 + 3, none⟩) hbb2).trans (hat2.nth 3 rfl)
      have q24 : wr.cell? ⟨b2, o2 + k * 6 + 4, none⟩ = some (.string l[k].code) := (hb.cell (p := ⟨b2, o2 + k * 6 + 4, none⟩) hbb2).trans (hat2.nth 4 rfl)
      have q25 : wr.cell? ⟨b2, o2 + k * 6 + 5, none⟩ = some (.int .i64 l[k].n) := (hb.cell (p := ⟨b2, o2 + k * 6 + 5, none⟩) hbb2).trans (hat2.nth 5 rfl)
      clear hat1 hat2 hd hri1 hri2
      have hbr1 : b1 < wr.heap.size := Nat.lt_of_lt_of_le hbb1 hb.size
      have hbr2 : b2 < wr.heap.size := Nat.lt_of_lt_of_le hbb2 hb.size
      have hP : ∀ wx : World, Below wr.heap.size wr wx → Calls Try.prog 47 _ wx (TruePost wx) := fun wx hwx => hE _ (List.getElem_mem hlt) wx _ _ _ _ ((hri1'.same (fun x hx => hb.block x (hS1.lt x (hfi1 x hx))) hb.size).below hwx) ((hri2'.same (fun x hx => hb.block x (hS2.lt x (hfi2 x hx))) hb.size).below hwx)
      clear hri1' hri2' hE
      go_wp2_with fail
      go_region_held3 (fun w' => w'.cell? ⟨b1, o1 + k * 6, none⟩ = some (.int .i64 l[k].id) ∧ w'.cell? ⟨b1, o1 + k * 6 + 1, none⟩ = some (.int .i64 l[k].ver) ∧ w'.cell? ⟨b1, o1 + k * 6 + 2, none⟩ = some (.int .i64 l[k].kind) ∧ w'.cell? ⟨b1, o1 + k * 6 + 3, none⟩ = some (.string l[k].name) ∧ w'.cell? ⟨b1, o1 + k * 6 + 4, none⟩ = some (.string l[k].code) ∧ w'.cell? ⟨b1, o1 + k * 6 + 5, none⟩ = some (.int .i64 l[k].n) ∧ w'.cell? ⟨b2, o2 + k * 6, none⟩ = some (.int .i64 l[k].id) ∧ w'.cell? ⟨b2, o2 + k * 6 + 1, none⟩ = some (.int .i64 l[k].ver) ∧ w'.cell? ⟨b2, o2 + k * 6 + 2, none⟩ = some (.int .i64 l[k].kind) ∧ w'.cell? ⟨b2, o2 + k * 6 + 3, none⟩ = some (.string l[k].name) ∧ w'.cell? ⟨b2, o2 + k * 6 + 4, none⟩ = some (.string l[k].code) ∧ w'.cell? ⟨b2, o2 + k * 6 + 5, none⟩ = some (.int .i64 l[k].n)) (go_keep)
        ((go_at_call 47; refine (hP _ ?_).mono ?_; (exact (Below.refl _ _).drew); rintro e w1 ⟨rfl, hb1⟩; have hc1 : ∀ o, w1.cell? ⟨b1, o, none⟩ = wr.cell? ⟨b1, o, none⟩ := fun o => hb1.cell (p := ⟨b1, o, none⟩) hbr1; have hc2 : ∀ o, w1.cell? ⟨b2, o, none⟩ = wr.cell? ⟨b2, o, none⟩ := fun o => hb1.cell (p := ⟨b2, o, none⟩) hbr2))
      go_wp2_with fail
      go_roundw
      case rel => exact ⟨k + 1, by omega, by go_num, hb.drew.trans (hb1.mono hb.size)⟩
      case measure => simp [intOf]; omega
    · go_wp2_with fail
      go_ret
      exact ⟨rfl, hb⟩

theorem GCell.eqSaid (x : GCell) : EqSaid Try.prog 47 x.toD := GCell.eqSaid_of x 
theorem CellS_eqSaid (l : List GCell) : EqsSaid Try.prog 43 (l.map GCell.toD) := CellS_eqSaid_of l fun x _ => x.eqSaid

set_option maxHeartbeats 1000000 in
theorem GNb.eqSaid_of (x : GNb) (hE0 : EqsSaid Try.prog 43 (x.cells.map GCell.toD)) : EqSaid Try.prog 12 x.toD := by
  intro w f1 f2 cs1 cs2 hR hR2
  obtain ⟨vA0, fA0, rfl, rfl, hSA0⟩ := GNb.opened.1 hR
  obtain ⟨A0, cA0, rfl, hqa, hqb⟩ := hSA0.formT
  clear hqa hqb
  clear hR
  obtain ⟨vB0, fB0, rfl, rfl, hSB0⟩ := GNb.opened.1 hR2
  obtain ⟨B0, cB0, rfl, hqa, hqb⟩ := hSB0.formT
  clear hqa hqb
  clear hR2
  go_enter Try.func12, Try.ntmps12
  go_wp2_with fail
  have hP0 : ∀ wx : World, Below w.heap.size w wx → Calls Try.prog 43 _ wx (TruePost wx) := fun wx hwx => hE0 wx _ _ _ _ (hSA0.below hwx) (hSB0.below hwx)
  refine (hP0 _ ?_).mono ?_
  · exact ((Below.refl _ _).alloc (by simp) _).alloc (by simp; try omega) _
  rintro e w1 ⟨rfl, hb1⟩
  obtain ⟨hr10, hr11, hz1, G1⟩ := rows2 hb1
  clear hb1
  have k10 := hr10.cell
  have k11 := hr11.cell
  go_wp2_with fail
  go_ret
  exact ⟨rfl, G1⟩

theorem GNb.eqSaid (x : GNb) : EqSaid Try.prog 12 x.toD := GNb.eqSaid_of x (CellS_eqSaid _)
set_option maxHeartbeats 1000000 in
theorem GEdit.eqSaid_of (x : GEdit) (hE0 : EqSaid Try.prog 47 x.cell.toD) : EqSaid Try.prog 17 x.toD := by
  intro w f1 f2 cs1 cs2 hR hR2
  obtain ⟨rfl, rfl⟩ := GEdit.opened.1 hR
  clear hR
  obtain ⟨rfl, rfl⟩ := GEdit.opened.1 hR2
  clear hR2
  go_enter Try.func17, Try.ntmps17
  go_wp2_with fail
  have hP0 : ∀ wx : World, Below w.heap.size w wx → Calls Try.prog 47 _ wx (TruePost wx) := fun wx hwx => hE0 wx _ _ _ _ (GCell.opened.2 ⟨rfl, rfl⟩) (GCell.opened.2 ⟨rfl, rfl⟩)
  refine (hP0 _ ?_).mono ?_
  · exact ((Below.refl _ _).alloc (by simp) _).alloc (by simp; try omega) _
  rintro e w1 ⟨rfl, hb1⟩
  obtain ⟨hr10, hr11, hz1, G1⟩ := rows2 hb1
  clear hb1
  have k10 := hr10.cell
  have k11 := hr11.cell
  go_wp2_with fail
  go_ret
  exact ⟨rfl, G1⟩

set_option maxHeartbeats 2000000 in
theorem EditS_eqSaid_of (l : List GEdit) (hE : ∀ x ∈ l, EqSaid Try.prog 17 x.toD) : EqsSaid Try.prog 23 (l.map GEdit.toD) := by
  intro w f1 f2 v1 v2 hS1 hS2
  obtain ⟨A, c, rfl, hl, hc⟩ := hS1.formT
  obtain ⟨A', c', rfl, hl', hc'⟩ := hS2.formT
  have hm : l.length ≤ 9223372036854775807 := by unfold maxLen at hc; omega
  clear hl hc hl' hc'
  go_enter Try.func23, Try.ntmps23
  go_wp2_with fail
  go_loopw [5] (fun iv wr => ∃ (k : Nat), k ≤ l.length ∧ iv = .int .i64 k ∧ Below w.heap.size w wr) (fun iv _ => l.length - (intOf iv).toNat)
  case atStart => exact ⟨0, by omega, rfl, Below.refl _ _⟩
  case round =>
    obtain ⟨k, hk, rfl, hb⟩ := hrel
    by_cases hlt : k < l.length
    · have hd : (l.map GEdit.toD)[k]? = some (GEdit.toD l[k]) := by rw [List.getElem?_map, List.getElem?_eq_getElem hlt]; rfl
      obtain ⟨b1, o1, fi1, ci1, rfl, hbb1, hbf1, hri1, hfi1, hat1⟩ := hS1.elem GEdit.szs hd
      obtain ⟨b2, o2, fi2, ci2, rfl, hbb2, hbf2, hri2, hfi2, hat2⟩ := hS2.elem GEdit.szs hd
      have hi1 : 0 ≤ (k : Int) := by omega
      have hi2 : (k : Int) < l.length := by omega
      have hri1' := hri1
      have hri2' := hri2
      obtain ⟨rfl, rfl⟩ := GEdit.opened.1 hri1
      have q10 : wr.cell? ⟨b1, o1 + k * 8, none⟩ = some (.int .i64 l[k].kind) := (hb.cell (p := ⟨b1, o1 + k * 8, none⟩) hbb1).trans (hat1.head)
      have q11 : wr.cell? ⟨b1, o1 + k * 8 + 1, none⟩ = some (.int .i64 l[k].pos) := (hb.cell (p := ⟨b1, o1 + k * 8 + 1, none⟩) hbb1).trans (hat1.nth 1 rfl)
      have q12 : wr.cell? ⟨b1, o1 + k * 8 + 2, none⟩ = some (.int .i64 l[k].cell.id) := (hb.cell (p := ⟨b1, o1 + k * 8 + 2, none⟩) hbb1).trans (hat1.nth 2 rfl)
      have q13 : wr.cell? ⟨b1, o1 + k * 8 + 3, none⟩ = some (.int .i64 l[k].cell.ver) := (hb.cell (p := ⟨b1, o1 + k * 8 + 3, none⟩) hbb1).trans (hat1.nth 3 rfl)
      have q14 : wr.cell? ⟨b1, o1 + k * 8 + 4, none⟩ = some (.int .i64 l[k].cell.kind) := (hb.cell (p := ⟨b1, o1 + k * 8 + 4, none⟩) hbb1).trans (hat1.nth 4 rfl)
      have q15 : wr.cell? ⟨b1, o1 + k * 8 + 5, none⟩ = some (.string l[k].cell.name) := (hb.cell (p := ⟨b1, o1 + k * 8 + 5, none⟩) hbb1).trans (hat1.nth 5 rfl)
      have q16 : wr.cell? ⟨b1, o1 + k * 8 + 6, none⟩ = some (.string l[k].cell.code) := (hb.cell (p := ⟨b1, o1 + k * 8 + 6, none⟩) hbb1).trans (hat1.nth 6 rfl)
      have q17 : wr.cell? ⟨b1, o1 + k * 8 + 7, none⟩ = some (.int .i64 l[k].cell.n) := (hb.cell (p := ⟨b1, o1 + k * 8 + 7, none⟩) hbb1).trans (hat1.nth 7 rfl)
      obtain ⟨rfl, rfl⟩ := GEdit.opened.1 hri2
      have q20 : wr.cell? ⟨b2, o2 + k * 8, none⟩ = some (.int .i64 l[k].kind) := (hb.cell (p := ⟨b2, o2 + k * 8, none⟩) hbb2).trans (hat2.head)
      have q21 : wr.cell? ⟨b2, o2 + k * 8 + 1, none⟩ = some (.int .i64 l[k].pos) := (hb.cell (p := ⟨b2, o2 + k * 8 + 1, none⟩) hbb2).trans (hat2.nth 1 rfl)
      have q22 : wr.cell? ⟨b2, o2 + k * 8 + 2, none⟩ = some (.int .i64 l[k].cell.id) := (hb.cell (p := ⟨b2, o2 + k * 8 + 2, none⟩) hbb2).trans (hat2.nth 2 rfl)
      have q23 : wr.cell? ⟨b2, o2 + k * 8 + 3, none⟩ = some (.int .i64 l[k].cell.ver) := (hb.cell (p := ⟨b2, o2 + k * 8 + 3, none⟩) hbb2).trans (hat2.nth 3 rfl)
      have q24 : wr.cell? ⟨b2, o2 + k * 8 + 4, none⟩ = some (.int .i64 l[k].cell.kind) := (hb.cell (p := ⟨b2, o2 + k * 8 + 4, none⟩) hbb2).trans (hat2.nth 4 rfl)
      have q25 : wr.cell? ⟨b2, o2 + k * 8 + 5, none⟩ = some (.string l[k].cell.name) := (hb.cell (p := ⟨b2, o2 + k * 8 + 5, none⟩) hbb2).trans (hat2.nth 5 rfl)
      have q26 : wr.cell? ⟨b2, o2 + k * 8 + 6, none⟩ = some (.string l[k].cell.code) := (hb.cell (p := ⟨b2, o2 + k * 8 + 6, none⟩) hbb2).trans (hat2.nth 6 rfl)
      have q27 : wr.cell? ⟨b2, o2 + k * 8 + 7, none⟩ = some (.int .i64 l[k].cell.n) := (hb.cell (p := ⟨b2, o2 + k * 8 + 7, none⟩) hbb2).trans (hat2.nth 7 rfl)
      clear hat1 hat2 hd hri1 hri2
      have hbr1 : b1 < wr.heap.size := Nat.lt_of_lt_of_le hbb1 hb.size
      have hbr2 : b2 < wr.heap.size := Nat.lt_of_lt_of_le hbb2 hb.size
      have hP : ∀ wx : World, Below wr.heap.size wr wx → Calls Try.prog 17 _ wx (TruePost wx) := fun wx hwx => hE _ (List.getElem_mem hlt) wx _ _ _ _ ((hri1'.same (fun x hx => hb.block x (hS1.lt x (hfi1 x hx))) hb.size).below hwx) ((hri2'.same (fun x hx => hb.block x (hS2.lt x (hfi2 x hx))) hb.size).below hwx)
      clear hri1' hri2' hE
      go_wp2_with fail
      go_region_held3 (fun w' => w'.cell? ⟨b1, o1 + k * 8, none⟩ = some (.int .i64 l[k].kind) ∧ w'.cell? ⟨b1, o1 + k * 8 + 1, none⟩ = some (.int .i64 l[k].pos) ∧ w'.cell? ⟨b1, o1 + k * 8 + 2, none⟩ = some (.int .i64 l[k].cell.id) ∧ w'.cell? ⟨b1, o1 + k * 8 + 3, none⟩ = some (.int .i64 l[k].cell.ver) ∧ w'.cell? ⟨b1, o1 + k * 8 + 4, none⟩ = some (.int .i64 l[k].cell.kind) ∧ w'.cell? ⟨b1, o1 + k * 8 + 5, none⟩ = some (.string l[k].cell.name) ∧ w'.cell? ⟨b1, o1 + k * 8 + 6, none⟩ = some (.string l[k].cell.code) ∧ w'.cell? ⟨b1, o1 + k * 8 + 7, none⟩ = some (.int .i64 l[k].cell.n) ∧ w'.cell? ⟨b2, o2 + k * 8, none⟩ = some (.int .i64 l[k].kind) ∧ w'.cell? ⟨b2, o2 + k * 8 + 1, none⟩ = some (.int .i64 l[k].pos) ∧ w'.cell? ⟨b2, o2 + k * 8 + 2, none⟩ = some (.int .i64 l[k].cell.id) ∧ w'.cell? ⟨b2, o2 + k * 8 + 3, none⟩ = some (.int .i64 l[k].cell.ver) ∧ w'.cell? ⟨b2, o2 + k * 8 + 4, none⟩ = some (.int .i64 l[k].cell.kind) ∧ w'.cell? ⟨b2, o2 + k * 8 + 5, none⟩ = some (.string l[k].cell.name) ∧ w'.cell? ⟨b2, o2 + k * 8 + 6, none⟩ = some (.string l[k].cell.code) ∧ w'.cell? ⟨b2, o2 + k * 8 + 7, none⟩ = some (.int .i64 l[k].cell.n)) (go_keep)
        ((go_at_call 17; refine (hP _ ?_).mono ?_; (exact (Below.refl _ _).drew); rintro e w1 ⟨rfl, hb1⟩; have hc1 : ∀ o, w1.cell? ⟨b1, o, none⟩ = wr.cell? ⟨b1, o, none⟩ := fun o => hb1.cell (p := ⟨b1, o, none⟩) hbr1; have hc2 : ∀ o, w1.cell? ⟨b2, o, none⟩ = wr.cell? ⟨b2, o, none⟩ := fun o => hb1.cell (p := ⟨b2, o, none⟩) hbr2))
      go_wp2_with fail
      go_roundw
      case rel => exact ⟨k + 1, by omega, by go_num, hb.drew.trans (hb1.mono hb.size)⟩
      case measure => simp [intOf]; omega
    · go_wp2_with fail
      go_ret
      exact ⟨rfl, hb⟩

theorem GEdit.eqSaid (x : GEdit) : EqSaid Try.prog 17 x.toD := GEdit.eqSaid_of x (GCell.eqSaid _)
theorem EditS_eqSaid (l : List GEdit) : EqsSaid Try.prog 23 (l.map GEdit.toD) := EditS_eqSaid_of l fun x _ => x.eqSaid

end Go.Proofs.Ytokplliaejbbdaa
