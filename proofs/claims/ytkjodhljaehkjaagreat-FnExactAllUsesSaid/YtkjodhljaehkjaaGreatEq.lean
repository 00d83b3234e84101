/-
  The laws' functions that hold two values against each other (eqCell, eqCellS ..): of equal data each answers true.
-/
import Derived.Test.YtkjodhljaehkjaaGreatTypes
import Derived.Test.YtkjodhljaehkjaaGreatProg
namespace Go.Proofs.YtkjodhljaehkjaaGreat
open Go.RowKit
set_option linter.unusedSimpArgs false
set_option linter.unusedVariables false

set_option maxHeartbeats 2000000 in
theorem IntS_eqSaid_of (l : List Int) : EqsSaid Tryz.prog 24 (l.map li) := by
  intro w f1 f2 v1 v2 hS1 hS2
  obtain ⟨A, c, rfl, hl, hc⟩ := hS1.formT
  obtain ⟨A', c', rfl, hl', hc'⟩ := hS2.formT
  have hm : l.length ≤ 9223372036854775807 := by unfold maxLen at hc; omega
  clear hl hc hl' hc'
  go_enter Tryz.func24, Tryz.ntmps24
  go_wp2_with fail
  go_loopw [5] (fun iv wr => ∃ (k : Nat), k ≤ l.length ∧ iv = .int .i64 k ∧ Below w.heap.size w wr) (fun iv _ => l.length - (intOf iv).toNat)
  case atStart => exact ⟨0, by omega, rfl, Below.refl _ _⟩
  case round =>
    obtain ⟨k, hk, rfl, hb⟩ := hrel
    by_cases hlt : k < l.length
    · have hd : (l.map li)[k]? = some (li l[k]) := by rw [List.getElem?_map, List.getElem?_eq_getElem hlt]; rfl
      obtain ⟨b1, o1, fi1, ci1, rfl, hbb1, hbf1, hri1, hfi1, hat1⟩ := hS1.elem li_szs hd
      obtain ⟨b2, o2, fi2, ci2, rfl, hbb2, hbf2, hri2, hfi2, hat2⟩ := hS2.elem li_szs hd
      have hi1 : 0 ≤ (k : Int) := by omega
      have hi2 : (k : Int) < l.length := by omega
      have hri1' := hri1
      have hri2' := hri2
      obtain ⟨rfl, rfl⟩ := hri1
      have q10 : wr.cell? ⟨b1, o1 + k, none⟩ = some (.int .i64 l[k]) := (hb.cell (p := ⟨b1, o1 + k, none⟩) hbb1).trans (by simpa using hat1.head)
      obtain ⟨rfl, rfl⟩ := hri2
      have q20 : wr.cell? ⟨b2, o2 + k, none⟩ = some (.int .i64 l[k]) := (hb.cell (p := ⟨b2, o2 + k, none⟩) hbb2).trans (by simpa using hat2.head)
      clear hat1 hat2 hd
      go_wp2_with fail
      go_quiet (fail)
      go_wp2_with fail
      go_roundw
      case rel => exact ⟨k + 1, by omega, by go_num, below_drewN hb _⟩
      case measure => simp [intOf]; omega
    · go_wp2_with fail
      go_ret
      exact ⟨rfl, hb⟩

theorem IntS_eqSaid (l : List Int) : EqsSaid Tryz.prog 24 (l.map li) := IntS_eqSaid_of l

set_option maxHeartbeats 2000000 in
theorem StringS_eqSaid_of (l : List ByteArray) : EqsSaid Tryz.prog 47 (l.map ls) := by
  intro w f1 f2 v1 v2 hS1 hS2
  obtain ⟨A, c, rfl, hl, hc⟩ := hS1.formT
  obtain ⟨A', c', rfl, hl', hc'⟩ := hS2.formT
  have hm : l.length ≤ 9223372036854775807 := by unfold maxLen at hc; omega
  clear hl hc hl' hc'
  go_enter Tryz.func47, Tryz.ntmps47
  go_wp2_with fail
  go_loopw [5] (fun iv wr => ∃ (k : Nat), k ≤ l.length ∧ iv = .int .i64 k ∧ Below w.heap.size w wr) (fun iv _ => l.length - (intOf iv).toNat)
  case atStart => exact ⟨0, by omega, rfl, Below.refl _ _⟩
  case round =>
    obtain ⟨k, hk, rfl, hb⟩ := hrel
    by_cases hlt : k < l.length
    · have hd : (l.map ls)[k]? = some (ls l[k]) := by rw [List.getElem?_map, List.getElem?_eq_getElem hlt]; rfl
      obtain ⟨b1, o1, fi1, ci1, rfl, hbb1, hbf1, hri1, hfi1, hat1⟩ := hS1.elem ls_szs hd
      obtain ⟨b2, o2, fi2, ci2, rfl, hbb2, hbf2, hri2, hfi2, hat2⟩ := hS2.elem ls_szs hd
      have hi1 : 0 ≤ (k : Int) := by omega
      have hi2 : (k : Int) < l.length := by omega
      have hri1' := hri1
      have hri2' := hri2
      obtain ⟨rfl, rfl⟩ := hri1
      have q10 : wr.cell? ⟨b1, o1 + k, none⟩ = some (.string l[k]) := (hb.cell (p := ⟨b1, o1 + k, none⟩) hbb1).trans (by simpa using hat1.head)
      obtain ⟨rfl, rfl⟩ := hri2
      have q20 : wr.cell? ⟨b2, o2 + k, none⟩ = some (.string l[k]) := (hb.cell (p := ⟨b2, o2 + k, none⟩) hbb2).trans (by simpa using hat2.head)
      clear hat1 hat2 hd
      go_wp2_with fail
      go_quiet (fail)
      go_wp2_with fail
      go_roundw
      case rel => exact ⟨k + 1, by omega, by go_num, below_drewN hb _⟩
      case measure => simp [intOf]; omega
    · go_wp2_with fail
      go_ret
      exact ⟨rfl, hb⟩

theorem StringS_eqSaid (l : List ByteArray) : EqsSaid Tryz.prog 47 (l.map ls) := StringS_eqSaid_of l

set_option maxHeartbeats 1000000 in
theorem GOrigin.eqSaid_of (x : GOrigin) : EqSaid Tryz.prog 135 x.toD := by
  intro w f1 f2 cs1 cs2 hR hR2
  obtain ⟨rfl, rfl⟩ := GOrigin.opened.1 hR
  clear hR
  obtain ⟨rfl, rfl⟩ := GOrigin.opened.1 hR2
  clear hR2
  go_enter Tryz.func135, Tryz.ntmps135
  go_wp2_with fail
  go_ret
  exact ⟨rfl, ((Below.refl _ _).alloc (Nat.le_refl _) _).alloc (by simp) _⟩

set_option maxHeartbeats 2000000 in
theorem OriginS_eqSaid_of (l : List GOrigin) (hE : ∀ x ∈ l, EqSaid Tryz.prog 135 x.toD) : EqsSaid Tryz.prog 121 (l.map GOrigin.toD) := by
  intro w f1 f2 v1 v2 hS1 hS2
  obtain ⟨A, c, rfl, hl, hc⟩ := hS1.formT
  obtain ⟨A', c', rfl, hl', hc'⟩ := hS2.formT
  have hm : l.length ≤ 9223372036854775807 := by unfold maxLen at hc; omega
  clear hl hc hl' hc'
  go_enter Tryz.func121, Tryz.ntmps121
  go_wp2_with fail
  go_loopw [5] (fun iv wr => ∃ (k : Nat), k ≤ l.length ∧ iv = .int .i64 k ∧ Below w.heap.size w wr) (fun iv _ => l.length - (intOf iv).toNat)
  case atStart => exact ⟨0, by omega, rfl, Below.refl _ _⟩
  case round =>
    obtain ⟨k, hk, rfl, hb⟩ := hrel
    by_cases hlt : k < l.length
    · have hd : (l.map GOrigin.toD)[k]? = some (GOrigin.toD l[k]) := by rw [List.getElem?_map, List.getElem?_eq_getElem hlt]; rfl
      obtain ⟨b1, o1, fi1, ci1, rfl, hbb1, hbf1, hri1, hfi1, hat1⟩ := hS1.elem GOrigin.szs hd
      obtain ⟨b2, o2, fi2, ci2, rfl, hbb2, hbf2, hri2, hfi2, hat2⟩ := hS2.elem GOrigin.szs hd
      have hi1 : 0 ≤ (k : Int) := by omega
      have hi2 : (k : Int) < l.length := by omega
      have hri1' := hri1
      have hri2' := hri2
      obtain ⟨rfl, rfl⟩ := GOrigin.opened.1 hri1
      have q10 : wr.cell? ⟨b1, o1 + k * 2, none⟩ = some (.int .i64 l[k].cell) := (hb.cell (p := ⟨b1, o1 + k * 2, none⟩) hbb1).trans (hat1.head)
      have q11 : wr.cell? ⟨b1, o1 + k * 2 + 1, none⟩ = some (.int .i64 l[k].row) := (hb.cell (p := ⟨b1, o1 + k * 2 + 1, none⟩) hbb1).trans (hat1.nth 1 rfl)
      obtain ⟨rfl, rfl⟩ := GOrigin.opened.1 hri2
      have q20 : wr.cell? ⟨b2, o2 + k * 2, none⟩ = some (.int .i64 l[k].cell) := (hb.cell (p := ⟨b2, o2 + k * 2, none⟩) hbb2).trans (hat2.head)
      have q21 : wr.cell? ⟨b2, o2 + k * 2 + 1, none⟩ = some (.int .i64 l[k].row) := (hb.cell (p := ⟨b2, o2 + k * 2 + 1, none⟩) hbb2).trans (hat2.nth 1 rfl)
      clear hat1 hat2 hd hri1 hri2
      have hbr1 : b1 < wr.heap.size := Nat.lt_of_lt_of_le hbb1 hb.size
      have hbr2 : b2 < wr.heap.size := Nat.lt_of_lt_of_le hbb2 hb.size
      have hP : ∀ wx : World, Below wr.heap.size wr wx → Calls Tryz.prog 135 _ wx (TruePost wx) := fun wx hwx => hE _ (List.getElem_mem hlt) wx _ _ _ _ ((hri1'.same (fun x hx => hb.block x (hS1.lt x (hfi1 x hx))) hb.size).below hwx) ((hri2'.same (fun x hx => hb.block x (hS2.lt x (hfi2 x hx))) hb.size).below hwx)
      clear hri1' hri2' hE
      go_wp2_with fail
      go_region_held3 (fun w' => w'.cell? ⟨b1, o1 + k * 2, none⟩ = some (.int .i64 l[k].cell) ∧ w'.cell? ⟨b1, o1 + k * 2 + 1, none⟩ = some (.int .i64 l[k].row) ∧ w'.cell? ⟨b2, o2 + k * 2, none⟩ = some (.int .i64 l[k].cell) ∧ w'.cell? ⟨b2, o2 + k * 2 + 1, none⟩ = some (.int .i64 l[k].row)) (go_keep)
        ((go_at_call 135; refine (hP _ ?_).mono ?_; (exact (Below.refl _ _).drew); rintro e w1 ⟨rfl, hb1⟩; have hc1 : ∀ o, w1.cell? ⟨b1, o, none⟩ = wr.cell? ⟨b1, o, none⟩ := fun o => hb1.cell (p := ⟨b1, o, none⟩) hbr1; have hc2 : ∀ o, w1.cell? ⟨b2, o, none⟩ = wr.cell? ⟨b2, o, none⟩ := fun o => hb1.cell (p := ⟨b2, o, none⟩) hbr2))
      go_wp2_with fail
      go_roundw
      case rel => exact ⟨k + 1, by omega, by go_num, hb.drew.trans (hb1.mono hb.size)⟩
      case measure => simp [intOf]; omega
    · go_wp2_with fail
      go_ret
      exact ⟨rfl, hb⟩

theorem GOrigin.eqSaid (x : GOrigin) : EqSaid Tryz.prog 135 x.toD := GOrigin.eqSaid_of x 
theorem OriginS_eqSaid (l : List GOrigin) : EqsSaid Tryz.prog 121 (l.map GOrigin.toD) := OriginS_eqSaid_of l fun x _ => x.eqSaid

set_option maxHeartbeats 1000000 in
theorem GRow.eqSaid_of (x : GRow) (hE0 : EqsSaid Tryz.prog 24 (x.cells.map li)) (hE1 : EqsSaid Tryz.prog 121 (x.src.map GOrigin.toD)) : EqSaid Tryz.prog 112 x.toD := by
  intro w f1 f2 cs1 cs2 hR hR2
  obtain ⟨vA0, vA1, fA0, fA1, rfl, rfl, hSA0, hSA1⟩ := GRow.opened.1 hR
  obtain ⟨A0, cA0, rfl, hqa, hqb⟩ := hSA0.formT
  clear hqa hqb
  obtain ⟨A1, cA1, rfl, hqa, hqb⟩ := hSA1.formT
  clear hqa hqb
  clear hR
  obtain ⟨vB0, vB1, fB0, fB1, rfl, rfl, hSB0, hSB1⟩ := GRow.opened.1 hR2
  obtain ⟨B0, cB0, rfl, hqa, hqb⟩ := hSB0.formT
  clear hqa hqb
  obtain ⟨B1, cB1, rfl, hqa, hqb⟩ := hSB1.formT
  clear hqa hqb
  clear hR2
  go_enter Tryz.func112, Tryz.ntmps112
  go_wp2_with fail
  have hP0 : ∀ wx : World, Below w.heap.size w wx → Calls Tryz.prog 24 _ wx (TruePost wx) := fun wx hwx => hE0 wx _ _ _ _ (hSA0.below hwx) (hSB0.below hwx)
  refine (hP0 _ ?_).mono ?_
  · exact ((Below.refl _ _).alloc (by simp) _).alloc (by simp; try omega) _
  rintro e w1 ⟨rfl, hb1⟩
  obtain ⟨hr10, hr11, hz1, G1⟩ := rows2 hb1
  clear hb1
  have k10 := hr10.cell
  have k11 := hr11.cell
  go_wp2_with fail
  have hP1 : ∀ wx : World, Below w.heap.size w wx → Calls Tryz.prog 121 _ wx (TruePost wx) := fun wx hwx => hE1 wx _ _ _ _ (hSA1.below hwx) (hSB1.below hwx)
  refine (hP1 _ ?_).mono ?_
  · exact G1
  rintro e w2 ⟨rfl, hb2⟩
  have hr20 := hr10.below hb2
  have hr21 := hr11.below hb2
  have hz2 : w.heap.size + 2 ≤ w2.heap.size := Nat.le_trans hz1 hb2.size
  have G2 : Below w.heap.size w w2 := G1.trans (hb2.mono (by omega))
  clear hb2
  have k20 := hr20.cell
  have k21 := hr21.cell
  go_wp2_with fail
  go_ret
  exact ⟨rfl, G2⟩

set_option maxHeartbeats 2000000 in
theorem RowS_eqSaid_of (l : List GRow) (hE : ∀ x ∈ l, EqSaid Tryz.prog 112 x.toD) : EqsSaid Tryz.prog 103 (l.map GRow.toD) := by
  intro w f1 f2 v1 v2 hS1 hS2
  obtain ⟨A, c, rfl, hl, hc⟩ := hS1.formT
  obtain ⟨A', c', rfl, hl', hc'⟩ := hS2.formT
  have hm : l.length ≤ 9223372036854775807 := by unfold maxLen at hc; omega
  clear hl hc hl' hc'
  go_enter Tryz.func103, Tryz.ntmps103
  go_wp2_with fail
  go_loopw [5] (fun iv wr => ∃ (k : Nat), k ≤ l.length ∧ iv = .int .i64 k ∧ Below w.heap.size w wr) (fun iv _ => l.length - (intOf iv).toNat)
  case atStart => exact ⟨0, by omega, rfl, Below.refl _ _⟩
  case round =>
    obtain ⟨k, hk, rfl, hb⟩ := hrel
    by_cases hlt : k < l.length
    · have hd : (l.map GRow.toD)[k]? = some (GRow.toD l[k]) := by rw [List.getElem?_map, List.getElem?_eq_getElem hlt]; rfl
      obtain ⟨b1, o1, fi1, ci1, rfl, hbb1, hbf1, hri1, hfi1, hat1⟩ := hS1.elem GRow.szs hd
      obtain ⟨b2, o2, fi2, ci2, rfl, hbb2, hbf2, hri2, hfi2, hat2⟩ := hS2.elem GRow.szs hd
      have hi1 : 0 ≤ (k : Int) := by omega
      have hi2 : (k : Int) < l.length := by omega
      have hri1' := hri1
      have hri2' := hri2
      obtain ⟨v10, v11, g10, g11, rfl, rfl, hV10, hV11⟩ := GRow.opened.1 hri1
      obtain ⟨A10, c10, rfl, hqa, hqb⟩ := hV10.formT
      clear hqa hqb hV10
      obtain ⟨A11, c11, rfl, hqa, hqb⟩ := hV11.formT
      clear hqa hqb hV11
      have q10 : wr.cell? ⟨b1, o1 + k * 2, none⟩ = some (.slice A10 l[k].cells.length c10) := (hb.cell (p := ⟨b1, o1 + k * 2, none⟩) hbb1).trans (hat1.head)
      have q11 : wr.cell? ⟨b1, o1 + k * 2 + 1, none⟩ = some (.slice A11 l[k].src.length c11) := (hb.cell (p := ⟨b1, o1 + k * 2 + 1, none⟩) hbb1).trans (hat1.nth 1 rfl)
      obtain ⟨v20, v21, g20, g21, rfl, rfl, hV20, hV21⟩ := GRow.opened.1 hri2
      obtain ⟨A20, c20, rfl, hqa, hqb⟩ := hV20.formT
      clear hqa hqb hV20
      obtain ⟨A21, c21, rfl, hqa, hqb⟩ := hV21.formT
      clear hqa hqb hV21
      have q20 : wr.cell? ⟨b2, o2 + k * 2, none⟩ = some (.slice A20 l[k].cells.length c20) := (hb.cell (p := ⟨b2, o2 + k * 2, none⟩) hbb2).trans (hat2.head)
      have q21 : wr.cell? ⟨b2, o2 + k * 2 + 1, none⟩ = some (.slice A21 l[k].src.length c21) := (hb.cell (p := ⟨b2, o2 + k * 2 + 1, none⟩) hbb2).trans (hat2.nth 1 rfl)
      clear hat1 hat2 hd hri1 hri2
      have hbr1 : b1 < wr.heap.size := Nat.lt_of_lt_of_le hbb1 hb.size
      have hbr2 : b2 < wr.heap.size := Nat.lt_of_lt_of_le hbb2 hb.size
      have hP : ∀ wx : World, Below wr.heap.size wr wx → Calls Tryz.prog 112 _ wx (TruePost wx) := fun wx hwx => hE _ (List.getElem_mem hlt) wx _ _ _ _ ((hri1'.same (fun x hx => hb.block x (hS1.lt x (hfi1 x hx))) hb.size).below hwx) ((hri2'.same (fun x hx => hb.block x (hS2.lt x (hfi2 x hx))) hb.size).below hwx)
      clear hri1' hri2' hE
      go_wp2_with fail
      go_region_held3 (fun w' => w'.cell? ⟨b1, o1 + k * 2, none⟩ = some (.slice A10 l[k].cells.length c10) ∧ w'.cell? ⟨b1, o1 + k * 2 + 1, none⟩ = some (.slice A11 l[k].src.length c11) ∧ w'.cell? ⟨b2, o2 + k * 2, none⟩ = some (.slice A20 l[k].cells.length c20) ∧ w'.cell? ⟨b2, o2 + k * 2 + 1, none⟩ = some (.slice A21 l[k].src.length c21)) (go_keep)
        ((go_at_call 112; refine (hP _ ?_).mono ?_; (exact (Below.refl _ _).drew); rintro e w1 ⟨rfl, hb1⟩; have hc1 : ∀ o, w1.cell? ⟨b1, o, none⟩ = wr.cell? ⟨b1, o, none⟩ := fun o => hb1.cell (p := ⟨b1, o, none⟩) hbr1; have hc2 : ∀ o, w1.cell? ⟨b2, o, none⟩ = wr.cell? ⟨b2, o, none⟩ := fun o => hb1.cell (p := ⟨b2, o, none⟩) hbr2))
      go_wp2_with fail
      go_roundw
      case rel => exact ⟨k + 1, by omega, by go_num, hb.drew.trans (hb1.mono hb.size)⟩
      case measure => simp [intOf]; omega
    · go_wp2_with fail
      go_ret
      exact ⟨rfl, hb⟩

theorem GRow.eqSaid (x : GRow) : EqSaid Tryz.prog 112 x.toD := GRow.eqSaid_of x (IntS_eqSaid _) (OriginS_eqSaid _)
theorem RowS_eqSaid (l : List GRow) : EqsSaid Tryz.prog 103 (l.map GRow.toD) := RowS_eqSaid_of l fun x _ => x.eqSaid

set_option maxHeartbeats 1000000 in
theorem GVal.eqSaid_of (x : GVal) (hE0 : EqsSaid Tryz.prog 102 (x.list.map GVal.toD)) (hE1 : EqsSaid Tryz.prog 47 (x.cols.map ls)) (hE2 : EqsSaid Tryz.prog 103 (x.rows.map GRow.toD)) : EqSaid Tryz.prog 85 x.toD := by
  intro w f1 f2 cs1 cs2 hR hR2
  obtain ⟨vA0, vA1, vA2, fA0, fA1, fA2, rfl, rfl, hSA0, hSA1, hSA2⟩ := GVal.opened.1 hR
  obtain ⟨A0, cA0, rfl, hqa, hqb⟩ := hSA0.formT
  clear hqa hqb
  obtain ⟨A1, cA1, rfl, hqa, hqb⟩ := hSA1.formT
  clear hqa hqb
  obtain ⟨A2, cA2, rfl, hqa, hqb⟩ := hSA2.formT
  clear hqa hqb
  clear hR
  obtain ⟨vB0, vB1, vB2, fB0, fB1, fB2, rfl, rfl, hSB0, hSB1, hSB2⟩ := GVal.opened.1 hR2
  obtain ⟨B0, cB0, rfl, hqa, hqb⟩ := hSB0.formT
  clear hqa hqb
  obtain ⟨B1, cB1, rfl, hqa, hqb⟩ := hSB1.formT
  clear hqa hqb
  obtain ⟨B2, cB2, rfl, hqa, hqb⟩ := hSB2.formT
  clear hqa hqb
  clear hR2
  go_enter Tryz.func85, Tryz.ntmps85
  go_wp2_with fail
  have hP0 : ∀ wx : World, Below w.heap.size w wx → Calls Tryz.prog 102 _ wx (TruePost wx) := fun wx hwx => hE0 wx _ _ _ _ (hSA0.below hwx) (hSB0.below hwx)
  refine (hP0 _ ?_).mono ?_
  · exact ((Below.refl _ _).alloc (by simp) _).alloc (by simp; try omega) _
  rintro e w1 ⟨rfl, hb1⟩
  obtain ⟨hr10, hr11, hz1, G1⟩ := rows2 hb1
  clear hb1
  have k10 := hr10.cell
  have k11 := hr11.cell
  go_wp2_with fail
  have hP1 : ∀ wx : World, Below w.heap.size w wx → Calls Tryz.prog 47 _ wx (TruePost wx) := fun wx hwx => hE1 wx _ _ _ _ (hSA1.below hwx) (hSB1.below hwx)
  refine (hP1 _ ?_).mono ?_
  · exact G1
  rintro e w2 ⟨rfl, hb2⟩
  have hr20 := hr10.below hb2
  have hr21 := hr11.below hb2
  have hz2 : w.heap.size + 2 ≤ w2.heap.size := Nat.le_trans hz1 hb2.size
  have G2 : Below w.heap.size w w2 := G1.trans (hb2.mono (by omega))
  clear hb2
  have k20 := hr20.cell
  have k21 := hr21.cell
  go_wp2_with fail
  have hP2 : ∀ wx : World, Below w.heap.size w wx → Calls Tryz.prog 103 _ wx (TruePost wx) := fun wx hwx => hE2 wx _ _ _ _ (hSA2.below hwx) (hSB2.below hwx)
  refine (hP2 _ ?_).mono ?_
  · exact G2
  rintro e w3 ⟨rfl, hb3⟩
  have hr30 := hr20.below hb3
  have hr31 := hr21.below hb3
  have hz3 : w.heap.size + 2 ≤ w3.heap.size := Nat.le_trans hz2 hb3.size
  have G3 : Below w.heap.size w w3 := G2.trans (hb3.mono (by omega))
  clear hb3
  have k30 := hr30.cell
  have k31 := hr31.cell
  go_wp2_with fail
  go_ret
  exact ⟨rfl, G3⟩

set_option maxHeartbeats 2000000 in
theorem ValueS_eqSaid_of (l : List GVal) (hE : ∀ x ∈ l, EqSaid Tryz.prog 85 x.toD) : EqsSaid Tryz.prog 102 (l.map GVal.toD) := by
  intro w f1 f2 v1 v2 hS1 hS2
  obtain ⟨A, c, rfl, hl, hc⟩ := hS1.formT
  obtain ⟨A', c', rfl, hl', hc'⟩ := hS2.formT
  have hm : l.length ≤ 9223372036854775807 := by unfold maxLen at hc; omega
  clear hl hc hl' hc'
  go_enter Tryz.func102, Tryz.ntmps102
  go_wp2_with fail
  go_loopw [5] (fun iv wr => ∃ (k : Nat), k ≤ l.length ∧ iv = .int .i64 k ∧ Below w.heap.size w wr) (fun iv _ => l.length - (intOf iv).toNat)
  case atStart => exact ⟨0, by omega, rfl, Below.refl _ _⟩
  case round =>
    obtain ⟨k, hk, rfl, hb⟩ := hrel
    by_cases hlt : k < l.length
    · have hd : (l.map GVal.toD)[k]? = some (GVal.toD l[k]) := by rw [List.getElem?_map, List.getElem?_eq_getElem hlt]; rfl
      obtain ⟨b1, o1, fi1, ci1, rfl, hbb1, hbf1, hri1, hfi1, hat1⟩ := hS1.elem GVal.szs hd
      obtain ⟨b2, o2, fi2, ci2, rfl, hbb2, hbf2, hri2, hfi2, hat2⟩ := hS2.elem GVal.szs hd
      have hi1 : 0 ≤ (k : Int) := by omega
      have hi2 : (k : Int) < l.length := by omega
      have hri1' := hri1
      have hri2' := hri2
      obtain ⟨v10, v11, v12, g10, g11, g12, rfl, rfl, hV10, hV11, hV12⟩ := GVal.opened.1 hri1
      obtain ⟨A10, c10, rfl, hqa, hqb⟩ := hV10.formT
      clear hqa hqb hV10
      obtain ⟨A11, c11, rfl, hqa, hqb⟩ := hV11.formT
      clear hqa hqb hV11
      obtain ⟨A12, c12, rfl, hqa, hqb⟩ := hV12.formT
      clear hqa hqb hV12
      have q10 : wr.cell? ⟨b1, o1 + k * 7, none⟩ = some (.int .i64 l[k].kind) := (hb.cell (p := ⟨b1, o1 + k * 7, none⟩) hbb1).trans (hat1.head)
      have q11 : wr.cell? ⟨b1, o1 + k * 7 + 1, none⟩ = some (.int .i64 l[k].n) := (hb.cell (p := ⟨b1, o1 + k * 7 + 1, none⟩) hbb1).trans (hat1.nth 1 rfl)
      have q12 : wr.cell? ⟨b1, o1 + k * 7 + 2, none⟩ = some (.int .i64 l[k].step) := (hb.cell (p := ⟨b1, o1 + k * 7 + 2, none⟩) hbb1).trans (hat1.nth 2 rfl)
      have q13 : wr.cell? ⟨b1, o1 + k * 7 + 3, none⟩ = some (.string l[k].text) := (hb.cell (p := ⟨b1, o1 + k * 7 + 3, none⟩) hbb1).trans (hat1.nth 3 rfl)
      have q14 : wr.cell? ⟨b1, o1 + k * 7 + 4, none⟩ = some (.slice A10 l[k].list.length c10) := (hb.cell (p := ⟨b1, o1 + k * 7 + 4, none⟩) hbb1).trans (hat1.nth 4 rfl)
      have q15 : wr.cell? ⟨b1, o1 + k * 7 + 5, none⟩ = some (.slice A11 l[k].cols.length c11) := (hb.cell (p := ⟨b1, o1 + k * 7 + 5, none⟩) hbb1).trans (hat1.nth 5 rfl)
      have q16 : wr.cell? ⟨b1, o1 + k * 7 + 6, none⟩ = some (.slice A12 l[k].rows.length c12) := (hb.cell (p := ⟨b1, o1 + k * 7 + 6, none⟩) hbb1).trans (hat1.nth 6 rfl)
      obtain ⟨v20, v21, v22, g20, g21, g22, rfl, rfl, hV20, hV21, hV22⟩ := GVal.opened.1 hri2
      obtain ⟨A20, c20, rfl, hqa, hqb⟩ := hV20.formT
      clear hqa hqb hV20
      obtain ⟨A21, c21, rfl, hqa, hqb⟩ := hV21.formT
      clear hqa hqb hV21
      obtain ⟨A22, c22, rfl, hqa, hqb⟩ := hV22.formT
      clear hqa hqb hV22
      have q20 : wr.cell? ⟨b2, o2 + k * 7, none⟩ = some (.int .i64 l[k].kind) := (hb.cell (p := ⟨b2, o2 + k * 7, none⟩) hbb2).trans (hat2.head)
      have q21 : wr.cell? ⟨b2, o2 + k * 7 + 1, none⟩ = some (.int .i64 l[k].n) := (hb.cell (p := ⟨b2, o2 + k * 7 + 1, none⟩) hbb2).trans (hat2.nth 1 rfl)
      have q22 : wr.cell? ⟨b2, o2 + k * 7 + 2, none⟩ = some (.int .i64 l[k].step) := (hb.cell (p := ⟨b2, o2 + k * 7 + 2, none⟩) hbb2).trans (hat2.nth 2 rfl)
      have q23 : wr.cell? ⟨b2, o2 + k * 7 + 3, none⟩ = some (.string l[k].text) := (hb.cell (p := ⟨b2, o2 + k * 7 + 3, none⟩) hbb2).trans (hat2.nth 3 rfl)
      have q24 : wr.cell? ⟨b2, o2 + k * 7 + 4, none⟩ = some (.slice A20 l[k].list.length c20) := (hb.cell (p := ⟨b2, o2 + k * 7 + 4, none⟩) hbb2).trans (hat2.nth 4 rfl)
      have q25 : wr.cell? ⟨b2, o2 + k * 7 + 5, none⟩ = some (.slice A21 l[k].cols.length c21) := (hb.cell (p := ⟨b2, o2 + k * 7 + 5, none⟩) hbb2).trans (hat2.nth 5 rfl)
      have q26 : wr.cell? ⟨b2, o2 + k * 7 + 6, none⟩ = some (.slice A22 l[k].rows.length c22) := (hb.cell (p := ⟨b2, o2 + k * 7 + 6, none⟩) hbb2).trans (hat2.nth 6 rfl)
      clear hat1 hat2 hd hri1 hri2
      have hbr1 : b1 < wr.heap.size := Nat.lt_of_lt_of_le hbb1 hb.size
      have hbr2 : b2 < wr.heap.size := Nat.lt_of_lt_of_le hbb2 hb.size
      have hP : ∀ wx : World, Below wr.heap.size wr wx → Calls Tryz.prog 85 _ wx (TruePost wx) := fun wx hwx => hE _ (List.getElem_mem hlt) wx _ _ _ _ ((hri1'.same (fun x hx => hb.block x (hS1.lt x (hfi1 x hx))) hb.size).below hwx) ((hri2'.same (fun x hx => hb.block x (hS2.lt x (hfi2 x hx))) hb.size).below hwx)
      clear hri1' hri2' hE
      go_wp2_with fail
      go_region_held3 (fun w' => w'.cell? ⟨b1, o1 + k * 7, none⟩ = some (.int .i64 l[k].kind) ∧ w'.cell? ⟨b1, o1 + k * 7 + 1, none⟩ = some (.int .i64 l[k].n) ∧ w'.cell? ⟨b1, o1 + k * 7 + 2, none⟩ = some (.int .i64 l[k].step) ∧ w'.cell? ⟨b1, o1 + k * 7 + 3, none⟩ = some (.string l[k].text) ∧ w'.cell? ⟨b1, o1 + k * 7 + 4, none⟩ = some (.slice A10 l[k].list.length c10) ∧ w'.cell? ⟨b1, o1 + k * 7 + 5, none⟩ = some (.slice A11 l[k].cols.length c11) ∧ w'.cell? ⟨b1, o1 + k * 7 + 6, none⟩ = some (.slice A12 l[k].rows.length c12) ∧ w'.cell? ⟨b2, o2 + k * 7, none⟩ = some (.int .i64 l[k].kind) ∧ w'.cell? ⟨b2, o2 + k * 7 + 1, none⟩ = some (.int .i64 l[k].n) ∧ w'.cell? ⟨b2, o2 + k * 7 + 2, none⟩ = some (.int .i64 l[k].step) ∧ w'.cell? ⟨b2, o2 + k * 7 + 3, none⟩ = some (.string l[k].text) ∧ w'.cell? ⟨b2, o2 + k * 7 + 4, none⟩ = some (.slice A20 l[k].list.length c20) ∧ w'.cell? ⟨b2, o2 + k * 7 + 5, none⟩ = some (.slice A21 l[k].cols.length c21) ∧ w'.cell? ⟨b2, o2 + k * 7 + 6, none⟩ = some (.slice A22 l[k].rows.length c22)) (go_keep)
        ((go_at_call 85; refine (hP _ ?_).mono ?_; (exact (Below.refl _ _).drew); rintro e w1 ⟨rfl, hb1⟩; have hc1 : ∀ o, w1.cell? ⟨b1, o, none⟩ = wr.cell? ⟨b1, o, none⟩ := fun o => hb1.cell (p := ⟨b1, o, none⟩) hbr1; have hc2 : ∀ o, w1.cell? ⟨b2, o, none⟩ = wr.cell? ⟨b2, o, none⟩ := fun o => hb1.cell (p := ⟨b2, o, none⟩) hbr2))
      go_wp2_with fail
      go_roundw
      case rel => exact ⟨k + 1, by omega, by go_num, hb.drew.trans (hb1.mono hb.size)⟩
      case measure => simp [intOf]; omega
    · go_wp2_with fail
      go_ret
      exact ⟨rfl, hb⟩

theorem GVal.eqSaid (x : GVal) : EqSaid Tryz.prog 85 x.toD := GVal.eqSaid_of x (ValueS_eqSaid_of _ fun y hy => GVal.eqSaid y) (StringS_eqSaid _) (RowS_eqSaid _)
termination_by SizeOf.sizeOf x
decreasing_by exact GVal.lt_of_mem hy
theorem ValueS_eqSaid (l : List GVal) : EqsSaid Tryz.prog 102 (l.map GVal.toD) := ValueS_eqSaid_of l fun x _ => x.eqSaid

set_option maxHeartbeats 1000000 in
theorem GExpr.eqSaid_of (x : GExpr) (hE0 : EqsSaid Tryz.prog 101 (x.args.map GExpr.toD)) : EqSaid Tryz.prog 84 x.toD := by
  intro w f1 f2 cs1 cs2 hR hR2
  obtain ⟨vA0, fA0, rfl, rfl, hSA0⟩ := GExpr.opened.1 hR
  obtain ⟨A0, cA0, rfl, hqa, hqb⟩ := hSA0.formT
  clear hqa hqb
  clear hR
  obtain ⟨vB0, fB0, rfl, rfl, hSB0⟩ := GExpr.opened.1 hR2
  obtain ⟨B0, cB0, rfl, hqa, hqb⟩ := hSB0.formT
  clear hqa hqb
  clear hR2
  go_enter Tryz.func84, Tryz.ntmps84
  go_wp2_with fail
  have hP0 : ∀ wx : World, Below w.heap.size w wx → Calls Tryz.prog 101 _ wx (TruePost wx) := fun wx hwx => hE0 wx _ _ _ _ (hSA0.below hwx) (hSB0.below hwx)
  refine (hP0 _ ?_).mono ?_
  · exact ((Below.refl _ _).alloc (by simp) _).alloc (by simp; try omega) _
  rintro e w1 ⟨rfl, hb1⟩
  obtain ⟨hr10, hr11, hz1, G1⟩ := rows2 hb1
  clear hb1
  have k10 := hr10.cell
  have k11 := hr11.cell
  go_wp2_with fail
  go_ret
  exact ⟨rfl, G1⟩

set_option maxHeartbeats 2000000 in
theorem ExprS_eqSaid_of (l : List GExpr) (hE : ∀ x ∈ l, EqSaid Tryz.prog 84 x.toD) : EqsSaid Tryz.prog 101 (l.map GExpr.toD) := by
  intro w f1 f2 v1 v2 hS1 hS2
  obtain ⟨A, c, rfl, hl, hc⟩ := hS1.formT
  obtain ⟨A', c', rfl, hl', hc'⟩ := hS2.formT
  have hm : l.length ≤ 9223372036854775807 := by unfold maxLen at hc; omega
  clear hl hc hl' hc'
  go_enter Tryz.func101, Tryz.ntmps101
  go_wp2_with fail
  go_loopw [5] (fun iv wr => ∃ (k : Nat), k ≤ l.length ∧ iv = .int .i64 k ∧ Below w.heap.size w wr) (fun iv _ => l.length - (intOf iv).toNat)
  case atStart => exact ⟨0, by omega, rfl, Below.refl _ _⟩
  case round =>
    obtain ⟨k, hk, rfl, hb⟩ := hrel
    by_cases hlt : k < l.length
    · have hd : (l.map GExpr.toD)[k]? = some (GExpr.toD l[k]) := by rw [List.getElem?_map, List.getElem?_eq_getElem hlt]; rfl
      obtain ⟨b1, o1, fi1, ci1, rfl, hbb1, hbf1, hri1, hfi1, hat1⟩ := hS1.elem GExpr.szs hd
      obtain ⟨b2, o2, fi2, ci2, rfl, hbb2, hbf2, hri2, hfi2, hat2⟩ := hS2.elem GExpr.szs hd
      have hi1 : 0 ≤ (k : Int) := by omega
      have hi2 : (k : Int) < l.length := by omega
      have hri1' := hri1
      have hri2' := hri2
      obtain ⟨v10, g10, rfl, rfl, hV10⟩ := GExpr.opened.1 hri1
      obtain ⟨A10, c10, rfl, hqa, hqb⟩ := hV10.formT
      clear hqa hqb hV10
      have q10 : wr.cell? ⟨b1, o1 + k * 4, none⟩ = some (.int .i64 l[k].kind) := (hb.cell (p := ⟨b1, o1 + k * 4, none⟩) hbb1).trans (hat1.head)
      have q11 : wr.cell? ⟨b1, o1 + k * 4 + 1, none⟩ = some (.int .i64 l[k].n) := (hb.cell (p := ⟨b1, o1 + k * 4 + 1, none⟩) hbb1).trans (hat1.nth 1 rfl)
      have q12 : wr.cell? ⟨b1, o1 + k * 4 + 2, none⟩ = some (.string l[k].text) := (hb.cell (p := ⟨b1, o1 + k * 4 + 2, none⟩) hbb1).trans (hat1.nth 2 rfl)
      have q13 : wr.cell? ⟨b1, o1 + k * 4 + 3, none⟩ = some (.slice A10 l[k].args.length c10) := (hb.cell (p := ⟨b1, o1 + k * 4 + 3, none⟩) hbb1).trans (hat1.nth 3 rfl)
      obtain ⟨v20, g20, rfl, rfl, hV20⟩ := GExpr.opened.1 hri2
      obtain ⟨A20, c20, rfl, hqa, hqb⟩ := hV20.formT
      clear hqa hqb hV20
      have q20 : wr.cell? ⟨b2, o2 + k * 4, none⟩ = some (.int .i64 l[k].kind) := (hb.cell (p := ⟨b2, o2 + k * 4, none⟩) hbb2).trans (hat2.head)
      have q21 : wr.cell? ⟨b2, o2 + k * 4 + 1, none⟩ = some (.int .i64 l[k].n) := (hb.cell (p := ⟨b2, o2 + k * 4 + 1, none⟩) hbb2).trans (hat2.nth 1 rfl)
      have q22 : wr.cell? ⟨b2, o2 + k * 4 + 2, none⟩ = some (.string l[k].text) := (hb.cell (p := ⟨b2, o2 + k * 4 + 2, none⟩) hbb2).trans (hat2.nth 2 rfl)
      have q23 : wr.cell? ⟨b2, o2 + k * 4 + 3, none⟩ = some (.slice A20 l[k].args.length c20) := (hb.cell (p := ⟨b2, o2 + k * 4 + 3, none⟩) hbb2).trans (hat2.nth 3 rfl)
      clear hat1 hat2 hd hri1 hri2
      have hbr1 : b1 < wr.heap.size := Nat.lt_of_lt_of_le hbb1 hb.size
      have hbr2 : b2 < wr.heap.size := Nat.lt_of_lt_of_le hbb2 hb.size
      have hP : ∀ wx : World, Below wr.heap.size wr wx → Calls Tryz.prog 84 _ wx (TruePost wx) := fun wx hwx => hE _ (List.getElem_mem hlt) wx _ _ _ _ ((hri1'.same (fun x hx => hb.block x (hS1.lt x (hfi1 x hx))) hb.size).below hwx) ((hri2'.same (fun x hx => hb.block x (hS2.lt x (hfi2 x hx))) hb.size).below hwx)
      clear hri1' hri2' hE
      go_wp2_with fail
      go_region_held3 (fun w' => w'.cell? ⟨b1, o1 + k * 4, none⟩ = some (.int .i64 l[k].kind) ∧ w'.cell? ⟨b1, o1 + k * 4 + 1, none⟩ = some (.int .i64 l[k].n) ∧ w'.cell? ⟨b1, o1 + k * 4 + 2, none⟩ = some (.string l[k].text) ∧ w'.cell? ⟨b1, o1 + k * 4 + 3, none⟩ = some (.slice A10 l[k].args.length c10) ∧ w'.cell? ⟨b2, o2 + k * 4, none⟩ = some (.int .i64 l[k].kind) ∧ w'.cell? ⟨b2, o2 + k * 4 + 1, none⟩ = some (.int .i64 l[k].n) ∧ w'.cell? ⟨b2, o2 + k * 4 + 2, none⟩ = some (.string l[k].text) ∧ w'.cell? ⟨b2, o2 + k * 4 + 3, none⟩ = some (.slice A20 l[k].args.length c20)) (go_keep)
        ((go_at_call 84; refine (hP _ ?_).mono ?_; (exact (Below.refl _ _).drew); rintro e w1 ⟨rfl, hb1⟩; have hc1 : ∀ o, w1.cell? ⟨b1, o, none⟩ = wr.cell? ⟨b1, o, none⟩ := fun o => hb1.cell (p := ⟨b1, o, none⟩) hbr1; have hc2 : ∀ o, w1.cell? ⟨b2, o, none⟩ = wr.cell? ⟨b2, o, none⟩ := fun o => hb1.cell (p := ⟨b2, o, none⟩) hbr2))
      go_wp2_with fail
      go_roundw
      case rel => exact ⟨k + 1, by omega, by go_num, hb.drew.trans (hb1.mono hb.size)⟩
      case measure => simp [intOf]; omega
    · go_wp2_with fail
      go_ret
      exact ⟨rfl, hb⟩

theorem GExpr.eqSaid (x : GExpr) : EqSaid Tryz.prog 84 x.toD := GExpr.eqSaid_of x (ExprS_eqSaid_of _ fun y hy => GExpr.eqSaid y)
termination_by SizeOf.sizeOf x
decreasing_by exact GExpr.lt_of_mem hy
theorem ExprS_eqSaid (l : List GExpr) : EqsSaid Tryz.prog 101 (l.map GExpr.toD) := ExprS_eqSaid_of l fun x _ => x.eqSaid

set_option maxHeartbeats 1000000 in
theorem GPart.eqSaid_of (x : GPart) (hE0 : EqSaid Tryz.prog 84 x.expr.toD) (hE1 : EqSaid Tryz.prog 85 x.value.toD) : EqSaid Tryz.prog 54 x.toD := by
  intro w f1 f2 cs1 cs2 hR hR2
  obtain ⟨vA0, vA1, vA2, vA3, fA0, fA1, fA2, fA3, rfl, rfl, hSA0, hSA1, hSA2, hSA3⟩ := GPart.opened.1 hR
  obtain ⟨A0, cA0, rfl, hqa, hqb⟩ := hSA0.formT
  clear hqa hqb
  obtain ⟨A1, cA1, rfl, hqa, hqb⟩ := hSA1.formT
  clear hqa hqb
  obtain ⟨A2, cA2, rfl, hqa, hqb⟩ := hSA2.formT
  clear hqa hqb
  obtain ⟨A3, cA3, rfl, hqa, hqb⟩ := hSA3.formT
  clear hqa hqb
  clear hR
  obtain ⟨vB0, vB1, vB2, vB3, fB0, fB1, fB2, fB3, rfl, rfl, hSB0, hSB1, hSB2, hSB3⟩ := GPart.opened.1 hR2
  obtain ⟨B0, cB0, rfl, hqa, hqb⟩ := hSB0.formT
  clear hqa hqb
  obtain ⟨B1, cB1, rfl, hqa, hqb⟩ := hSB1.formT
  clear hqa hqb
  obtain ⟨B2, cB2, rfl, hqa, hqb⟩ := hSB2.formT
  clear hqa hqb
  obtain ⟨B3, cB3, rfl, hqa, hqb⟩ := hSB3.formT
  clear hqa hqb
  clear hR2
  go_enter Tryz.func54, Tryz.ntmps54
  go_wp2_with fail
  have hP0 : ∀ wx : World, Below w.heap.size w wx → Calls Tryz.prog 84 _ wx (TruePost wx) := fun wx hwx => hE0 wx _ _ _ _ (GExpr.opened.2 ⟨_, _, rfl, rfl, hSA0.below hwx⟩) (GExpr.opened.2 ⟨_, _, rfl, rfl, hSB0.below hwx⟩)
  refine (hP0 _ ?_).mono ?_
  · exact ((Below.refl _ _).alloc (by simp) _).alloc (by simp; try omega) _
  rintro e w1 ⟨rfl, hb1⟩
  obtain ⟨hr10, hr11, hz1, G1⟩ := rows2 hb1
  clear hb1
  have k10 := hr10.cell
  have k11 := hr11.cell
  go_wp2_with fail
  have hP1 : ∀ wx : World, Below w.heap.size w wx → Calls Tryz.prog 85 _ wx (TruePost wx) := fun wx hwx => hE1 wx _ _ _ _ (GVal.opened.2 ⟨_, _, _, _, _, _, rfl, rfl, hSA1.below hwx, hSA2.below hwx, hSA3.below hwx⟩) (GVal.opened.2 ⟨_, _, _, _, _, _, rfl, rfl, hSB1.below hwx, hSB2.below hwx, hSB3.below hwx⟩)
  refine (hP1 _ ?_).mono ?_
  · exact G1
  rintro e w2 ⟨rfl, hb2⟩
  have hr20 := hr10.below hb2
  have hr21 := hr11.below hb2
  have hz2 : w.heap.size + 2 ≤ w2.heap.size := Nat.le_trans hz1 hb2.size
  have G2 : Below w.heap.size w w2 := G1.trans (hb2.mono (by omega))
  clear hb2
  have k20 := hr20.cell
  have k21 := hr21.cell
  go_wp2_with fail
  go_ret
  exact ⟨rfl, G2⟩

set_option maxHeartbeats 2000000 in
theorem PartS_eqSaid_of (l : List GPart) (hE : ∀ x ∈ l, EqSaid Tryz.prog 54 x.toD) : EqsSaid Tryz.prog 19 (l.map GPart.toD) := by
  intro w f1 f2 v1 v2 hS1 hS2
  obtain ⟨A, c, rfl, hl, hc⟩ := hS1.formT
  obtain ⟨A', c', rfl, hl', hc'⟩ := hS2.formT
  have hm : l.length ≤ 9223372036854775807 := by unfold maxLen at hc; omega
  clear hl hc hl' hc'
  go_enter Tryz.func19, Tryz.ntmps19
  go_wp2_with fail
  go_loopw [5] (fun iv wr => ∃ (k : Nat), k ≤ l.length ∧ iv = .int .i64 k ∧ Below w.heap.size w wr) (fun iv _ => l.length - (intOf iv).toNat)
  case atStart => exact ⟨0, by omega, rfl, Below.refl _ _⟩
  case round =>
    obtain ⟨k, hk, rfl, hb⟩ := hrel
    by_cases hlt : k < l.length
    · have hd : (l.map GPart.toD)[k]? = some (GPart.toD l[k]) := by rw [List.getElem?_map, List.getElem?_eq_getElem hlt]; rfl
      obtain ⟨b1, o1, fi1, ci1, rfl, hbb1, hbf1, hri1, hfi1, hat1⟩ := hS1.elem GPart.szs hd
      obtain ⟨b2, o2, fi2, ci2, rfl, hbb2, hbf2, hri2, hfi2, hat2⟩ := hS2.elem GPart.szs hd
      have hi1 : 0 ≤ (k : Int) := by omega
      have hi2 : (k : Int) < l.length := by omega
      have hri1' := hri1
      have hri2' := hri2
      obtain ⟨v10, v11, v12, v13, g10, g11, g12, g13, rfl, rfl, hV10, hV11, hV12, hV13⟩ := GPart.opened.1 hri1
      obtain ⟨A10, c10, rfl, hqa, hqb⟩ := hV10.formT
      clear hqa hqb hV10
      obtain ⟨A11, c11, rfl, hqa, hqb⟩ := hV11.formT
      clear hqa hqb hV11
      obtain ⟨A12, c12, rfl, hqa, hqb⟩ := hV12.formT
      clear hqa hqb hV12
      obtain ⟨A13, c13, rfl, hqa, hqb⟩ := hV13.formT
      clear hqa hqb hV13
      have q10 : wr.cell? ⟨b1, o1 + k * 14, none⟩ = some (.int .i64 l[k].kind) := (hb.cell (p := ⟨b1, o1 + k * 14, none⟩) hbb1).trans (hat1.head)
      have q11 : wr.cell? ⟨b1, o1 + k * 14 + 1, none⟩ = some (.string l[k].name) := (hb.cell (p := ⟨b1, o1 + k * 14 + 1, none⟩) hbb1).trans (hat1.nth 1 rfl)
      have q12 : wr.cell? ⟨b1, o1 + k * 14 + 2, none⟩ = some (.int .i64 l[k].expr.kind) := (hb.cell (p := ⟨b1, o1 + k * 14 + 2, none⟩) hbb1).trans (hat1.nth 2 rfl)
      have q13 : wr.cell? ⟨b1, o1 + k * 14 + 3, none⟩ = some (.int .i64 l[k].expr.n) := (hb.cell (p := ⟨b1, o1 + k * 14 + 3, none⟩) hbb1).trans (hat1.nth 3 rfl)
      have q14 : wr.cell? ⟨b1, o1 + k * 14 + 4, none⟩ = some (.string l[k].expr.text) := (hb.cell (p := ⟨b1, o1 + k * 14 + 4, none⟩) hbb1).trans (hat1.nth 4 rfl)
      have q15 : wr.cell? ⟨b1, o1 + k * 14 + 5, none⟩ = some (.slice A10 l[k].expr.args.length c10) := (hb.cell (p := ⟨b1, o1 + k * 14 + 5, none⟩) hbb1).trans (hat1.nth 5 rfl)
      have q16 : wr.cell? ⟨b1, o1 + k * 14 + 6, none⟩ = some (.int .i64 l[k].value.kind) := (hb.cell (p := ⟨b1, o1 + k * 14 + 6, none⟩) hbb1).trans (hat1.nth 6 rfl)
      have q17 : wr.cell? ⟨b1, o1 + k * 14 + 7, none⟩ = some (.int .i64 l[k].value.n) := (hb.cell (p := ⟨b1, o1 + k * 14 + 7, none⟩) hbb1).trans (hat1.nth 7 rfl)
      have q18 : wr.cell? ⟨b1, o1 + k * 14 + 8, none⟩ = some (.int .i64 l[k].value.step) := (hb.cell (p := ⟨b1, o1 + k * 14 + 8, none⟩) hbb1).trans (hat1.nth 8 rfl)
      have q19 : wr.cell? ⟨b1, o1 + k * 14 + 9, none⟩ = some (.string l[k].value.text) := (hb.cell (p := ⟨b1, o1 + k * 14 + 9, none⟩) hbb1).trans (hat1.nth 9 rfl)
      have q110 : wr.cell? ⟨b1, o1 + k * 14 + 10, none⟩ = some (.slice A11 l[k].value.list.length c11) := (hb.cell (p := ⟨b1, o1 + k * 14 + 10, none⟩) hbb1).trans (hat1.nth 10 rfl)
      have q111 : wr.cell? ⟨b1, o1 + k * 14 + 11, none⟩ = some (.slice A12 l[k].value.cols.length c12) := (hb.cell (p := ⟨b1, o1 + k * 14 + 11, none⟩) hbb1).trans (hat1.nth 11 rfl)
      have q112 : wr.cell? ⟨b1, o1 + k * 14 + 12, none⟩ = some (.slice A13 l[k].value.rows.length c13) := (hb.cell (p := ⟨b1, o1 + k * 14 + 12, none⟩) hbb1).trans (hat1.nth 12 rfl)
      have q113 : wr.cell? ⟨b1, o1 + k * 14 + 13, none⟩ = some (.int .i64 l[k].pos) := (hb.cell (p := ⟨b1, o1 + k * 14 + 13, none⟩) hbb1).trans (hat1.nth 13 rfl)
      obtain ⟨v20, v21, v22, v23, g20, g21, g22, g23, rfl, rfl, hV20, hV21, hV22, hV23⟩ := GPart.opened.1 hri2
      obtain ⟨A20, c20, rfl, hqa, hqb⟩ := hV20.formT
      clear hqa hqb hV20
      obtain ⟨A21, c21, rfl, hqa, hqb⟩ := hV21.formT
      clear hqa hqb hV21
      obtain ⟨A22, c22, rfl, hqa, hqb⟩ := hV22.formT
      clear hqa hqb hV22
      obtain ⟨A23, c23, rfl, hqa, hqb⟩ := hV23.formT
      clear hqa hqb hV23
      have q20 : wr.cell? ⟨b2, o2 + k * 14, none⟩ = some (.int .i64 l[k].kind) := (hb.cell (p := ⟨b2, o2 + k * 14, none⟩) hbb2).trans (hat2.head)
      have q21 : wr.cell? ⟨b2, o2 + k * 14 + 1, none⟩ = some (.string l[k].name) := (hb.cell (p := ⟨b2, o2 + k * 14 + 1, none⟩) hbb2).trans (hat2.nth 1 rfl)
      have q22 : wr.cell? ⟨b2, o2 + k * 14 + 2, none⟩ = some (.int .i64 l[k].expr.kind) := (hb.cell (p := ⟨b2, o2 + k * 14 + 2, none⟩) hbb2).trans (hat2.nth 2 rfl)
      have q23 : wr.cell? ⟨b2, o2 + k * 14 + 3, none⟩ = some (.int .i64 l[k].expr.n) := (hb.cell (p := ⟨b2, o2 + k * 14 + 3, none⟩) hbb2).trans (hat2.nth 3 rfl)
      have q24 : wr.cell? ⟨b2, o2 + k * 14 + 4, none⟩ = some (.string l[k].expr.text) := (hb.cell (p := ⟨b2, o2 + k * 14 + 4, none⟩) hbb2).trans (hat2.nth 4 rfl)
      have q25 : wr.cell? ⟨b2, o2 + k * 14 + 5, none⟩ = some (.slice A20 l[k].expr.args.length c20) := (hb.cell (p := ⟨b2, o2 + k * 14 + 5, none⟩) hbb2).trans (hat2.nth 5 rfl)
      have q26 : wr.cell? ⟨b2, o2 + k * 14 + 6, none⟩ = some (.int .i64 l[k].value.kind) := (hb.cell (p := ⟨b2, o2 + k * 14 + 6, none⟩) hbb2).trans (hat2.nth 6 rfl)
      have q27 : wr.cell? ⟨b2, o2 + k * 14 + 7, none⟩ = some (.int .i64 l[k].value.n) := (hb.cell (p := ⟨b2, o2 + k * 14 + 7, none⟩) hbb2).trans (hat2.nth 7 rfl)
      have q28 : wr.cell? ⟨b2, o2 + k * 14 + 8, none⟩ = some (.int .i64 l[k].value.step) := (hb.cell (p := ⟨b2, o2 + k * 14 + 8, none⟩) hbb2).trans (hat2.nth 8 rfl)
      have q29 : wr.cell? ⟨b2, o2 + k * 14 + 9, none⟩ = some (.string l[k].value.text) := (hb.cell (p := ⟨b2, o2 + k * 14 + 9, none⟩) hbb2).trans (hat2.nth 9 rfl)
      have q210 : wr.cell? ⟨b2, o2 + k * 14 + 10, none⟩ = some (.slice A21 l[k].value.list.length c21) := (hb.cell (p := ⟨b2, o2 + k * 14 + 10, none⟩) hbb2).trans (hat2.nth 10 rfl)
      have q211 : wr.cell? ⟨b2, o2 + k * 14 + 11, none⟩ = some (.slice A22 l[k].value.cols.length c22) := (hb.cell (p := ⟨b2, o2 + k * 14 + 11, none⟩) hbb2).trans (hat2.nth 11 rfl)
      have q212 : wr.cell? ⟨b2, o2 + k * 14 + 12, none⟩ = some (.slice A23 l[k].value.rows.length c23) := (hb.cell (p := ⟨b2, o2 + k * 14 + 12, none⟩) hbb2).trans (hat2.nth 12 rfl)
      have q213 : wr.cell? ⟨b2, o2 + k * 14 + 13, none⟩ = some (.int .i64 l[k].pos) := (hb.cell (p := ⟨b2, o2 + k * 14 + 13, none⟩) hbb2).trans (hat2.nth 13 rfl)
      clear hat1 hat2 hd hri1 hri2
      have hbr1 : b1 < wr.heap.size := Nat.lt_of_lt_of_le hbb1 hb.size
      have hbr2 : b2 < wr.heap.size := Nat.lt_of_lt_of_le hbb2 hb.size
      have hP : ∀ wx : World, Below wr.heap.size wr wx → Calls Tryz.prog 54 _ wx (TruePost wx) := fun wx hwx => hE _ (List.getElem_mem hlt) wx _ _ _ _ ((hri1'.same (fun x hx => hb.block x (hS1.lt x (hfi1 x hx))) hb.size).below hwx) ((hri2'.same (fun x hx => hb.block x (hS2.lt x (hfi2 x hx))) hb.size).below hwx)
      clear hri1' hri2' hE
      go_wp2_with fail
      go_region_held3 (fun w' => w'.cell? ⟨b1, o1 + k * 14, none⟩ = some (.int .i64 l[k].kind) ∧ w'.cell? ⟨b1, o1 + k * 14 + 1, none⟩ = some (.string l[k].name) ∧ w'.cell? ⟨b1, o1 + k * 14 + 2, none⟩ = some (.int .i64 l[k].expr.kind) ∧ w'.cell? ⟨b1, o1 + k * 14 + 3, none⟩ = some (.int .i64 l[k].expr.n) ∧ w'.cell? ⟨b1, o1 + k * 14 + 4, none⟩ = some (.string l[k].expr.text) ∧ w'.cell? ⟨b1, o1 + k * 14 + 5, none⟩ = some (.slice A10 l[k].expr.args.length c10) ∧ w'.cell? ⟨b1, o1 + k * 14 + 6, none⟩ = some (.int .i64 l[k].value.kind) ∧ w'.cell? ⟨b1, o1 + k * 14 + 7, none⟩ = some (.int .i64 l[k].value.n) ∧ w'.cell? ⟨b1, o1 + k * 14 + 8, none⟩ = some (.int .i64 l[k].value.step) ∧ w'.cell? ⟨b1, o1 + k * 14 + 9, none⟩ = some (.string l[k].value.text) ∧ w'.cell? ⟨b1, o1 + k * 14 + 10, none⟩ = some (.slice A11 l[k].value.list.length c11) ∧ w'.cell? ⟨b1, o1 + k * 14 + 11, none⟩ = some (.slice A12 l[k].value.cols.length c12) ∧ w'.cell? ⟨b1, o1 + k * 14 + 12, none⟩ = some (.slice A13 l[k].value.rows.length c13) ∧ w'.cell? ⟨b1, o1 + k * 14 + 13, none⟩ = some (.int .i64 l[k].pos) ∧ w'.cell? ⟨b2, o2 + k * 14, none⟩ = some (.int .i64 l[k].kind) ∧ w'.cell? ⟨b2, o2 + k * 14 + 1, none⟩ = some (.string l[k].name) ∧ w'.cell? ⟨b2, o2 + k * 14 + 2, none⟩ = some (.int .i64 l[k].expr.kind) ∧ w'.cell? ⟨b2, o2 + k * 14 + 3, none⟩ = some (.int .i64 l[k].expr.n) ∧ w'.cell? ⟨b2, o2 + k * 14 + 4, none⟩ = some (.string l[k].expr.text) ∧ w'.cell? ⟨b2, o2 + k * 14 + 5, none⟩ = some (.slice A20 l[k].expr.args.length c20) ∧ w'.cell? ⟨b2, o2 + k * 14 + 6, none⟩ = some (.int .i64 l[k].value.kind) ∧ w'.cell? ⟨b2, o2 + k * 14 + 7, none⟩ = some (.int .i64 l[k].value.n) ∧ w'.cell? ⟨b2, o2 + k * 14 + 8, none⟩ = some (.int .i64 l[k].value.step) ∧ w'.cell? ⟨b2, o2 + k * 14 + 9, none⟩ = some (.string l[k].value.text) ∧ w'.cell? ⟨b2, o2 + k * 14 + 10, none⟩ = some (.slice A21 l[k].value.list.length c21) ∧ w'.cell? ⟨b2, o2 + k * 14 + 11, none⟩ = some (.slice A22 l[k].value.cols.length c22) ∧ w'.cell? ⟨b2, o2 + k * 14 + 12, none⟩ = some (.slice A23 l[k].value.rows.length c23) ∧ w'.cell? ⟨b2, o2 + k * 14 + 13, none⟩ = some (.int .i64 l[k].pos)) (go_keep)
        ((go_at_call 54; refine (hP _ ?_).mono ?_; (exact (Below.refl _ _).drew); rintro e w1 ⟨rfl, hb1⟩; have hc1 : ∀ o, w1.cell? ⟨b1, o, none⟩ = wr.cell? ⟨b1, o, none⟩ := fun o => hb1.cell (p := ⟨b1, o, none⟩) hbr1; have hc2 : ∀ o, w1.cell? ⟨b2, o, none⟩ = wr.cell? ⟨b2, o, none⟩ := fun o => hb1.cell (p := ⟨b2, o, none⟩) hbr2))
      go_wp2_with fail
      go_roundw
      case rel => exact ⟨k + 1, by omega, by go_num, hb.drew.trans (hb1.mono hb.size)⟩
      case measure => simp [intOf]; omega
    · go_wp2_with fail
      go_ret
      exact ⟨rfl, hb⟩

theorem GPart.eqSaid (x : GPart) : EqSaid Tryz.prog 54 x.toD := GPart.eqSaid_of x (GExpr.eqSaid _) (GVal.eqSaid _)
theorem PartS_eqSaid (l : List GPart) : EqsSaid Tryz.prog 19 (l.map GPart.toD) := PartS_eqSaid_of l fun x _ => x.eqSaid

end Go.Proofs.YtkjodhljaehkjaaGreat
