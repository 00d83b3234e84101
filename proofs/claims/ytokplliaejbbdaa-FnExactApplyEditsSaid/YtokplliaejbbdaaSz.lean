/-
  The laws' functions that weigh an argument (szCell, szCellS ..): each takes the weight off the budget, or answers -1.
-/
import Derived.Test.YtokplliaejbbdaaTypes
import Derived.Test.YtokplliaejbbdaaProg
namespace Go.Proofs.Ytokplliaejbbdaa
open Go.RowKit
set_option linter.unusedSimpArgs false
set_option linter.unusedVariables false

theorem GCell.szSaid_of (x : GCell) : SzSaid Try.prog 28 x.toD := by
  intro w fp cs left hR hwf h0 h1
  rw [GCell.wt_eq]
  rw [GCell.toD_eq] at hwf
  obtain ⟨_, _, _, hw3, hw4, _, _⟩ := hwf
  have hq := GCell.opened.1 hR
  obtain ⟨rfl, rfl⟩ := hq
  replace hw3 : x.name.size ≤ 9223372036854775807 := hw3
  replace hw4 : x.code.size ≤ 9223372036854775807 := hw4
  clear hR
  have H0 : SzRel left 0 left := Or.inr ⟨h0, (Int.sub_zero _).symm⟩
  go_enter Try.func28, Try.ntmps28
  go_wp2_with fail
  · go_ret
    exact ⟨_, rfl, ((H0.step (by omega) (SzRel.out (by omega))).stop (by omega) _), by omega, by omega, (Below.refl _ _).alloc (Nat.le_refl _) _⟩
  · go_ret
    exact ⟨_, rfl, ((H0.step (by omega) (SzRel.sub (k := x.name.size) (by omega))).step (by omega) (SzRel.out (by omega))), by omega, by omega, (Below.refl _ _).alloc (Nat.le_refl _) _⟩
  go_ret
  exact ⟨_, rfl, ((H0.step (by omega) (SzRel.sub (k := x.name.size) (by omega))).step (by omega) (SzRel.sub (k := x.code.size) (by omega))), by omega, by omega, (Below.refl _ _).alloc (Nat.le_refl _) _⟩

theorem CellS_szSaid_of (l : List GCell) (hE : ∀ x ∈ l, SzSaid Try.prog 28 x.toD) : SzsSaid Try.prog 27 (l.map GCell.toD) := by
  intro w fp v left hS hwf h0 h1
  obtain ⟨A, c, rfl, hl, hc⟩ := hS.formT
  rw [List.length_map]
  have hm : l.length ≤ 9223372036854775807 := by unfold maxLen at hc; omega
  clear hc hl
  go_enter Try.func27, Try.ntmps27
  go_wp2_with fail
  · go_ret
    exact ⟨_, rfl, (SzRel.out (k := l.length) (by omega)).stop (by omega) _, by omega, by omega, Below.refl _ _⟩
  go_loopw [1, 5] (fun lv iv wr => ∃ (k : Nat) (m : Int), k ≤ l.length ∧ 0 ≤ m ∧ m ≤ left ∧ m + D.wts (l.map GCell.toD) = left - l.length + D.wts ((l.map GCell.toD).drop k) ∧ lv = .int .i64 m ∧ iv = .int .i64 k ∧ Below w.heap.size w wr) (fun _ iv _ => l.length - (intOf iv).toNat)
  case atStart => exact ⟨0, left - l.length, by omega, by omega, by omega, rfl, rfl, rfl, Below.refl _ _⟩
  case round =>
    obtain ⟨k, m, hk, hm0, hm1, he, rfl, rfl, hb⟩ := hrel
    by_cases hlt : k < l.length
    · have hd : (l.map GCell.toD)[k]? = some (GCell.toD l[k]) := by rw [List.getElem?_map, List.getElem?_eq_getElem hlt]; rfl
      obtain ⟨b, o, fi, ci, rfl, hbb, hbf, hri, hfi, hat⟩ := hS.elem GCell.szs hd
      have hwk := D.wfs_get hwf (List.mem_of_getElem? hd)
      have hst := D.wts_drop (l.map GCell.toD) k (by simpa using hlt)
      rw [List.getElem_map] at hst
      have hri' := hri
      obtain ⟨rfl, rfl⟩ := GCell.opened.1 hri
      have q0 := (hb.cell (p := ⟨b, o + k * 6, none⟩) hbb).trans (hat.head)
      have q1 := (hb.cell (p := ⟨b, o + k * 6 + 1, none⟩) hbb).trans (hat.nth 1 rfl)
      have q2 := (hb.cell (p := ⟨b, o + k * 6 + 2, none⟩) hbb).trans (hat.nth 2 rfl)
      have q3 := (hb.cell (p := ⟨b, o + k * 6 + 3, none⟩) hbb).trans (hat.nth 3 rfl)
      have q4 := (hb.cell (p := ⟨b, o + k * 6 + 4, none⟩) hbb).trans (hat.nth 4 rfl)
      have q5 := (hb.cell (p := ⟨b, o + k * 6 + 5, none⟩) hbb).trans (hat.nth 5 rfl)
      have hst' := Lib.hid hst
      have he' := Lib.hid he
      clear hat hst he hd
      go_wp2_with fail
      refine (hE _ (List.getElem_mem hlt) _ _ _ _ (hri'.same (fun x hx => hb.block x (hS.lt x (hfi x hx))) hb.size) hwk (by omega) (by omega)).mono ?_
      rintro e w1 ⟨r, rfl, hr, hra, hrb, hb1⟩
      have G1 : Below w.heap.size w w1 := hb.trans (hb1.mono hb.size)
      go_wp2_with fail
      · go_ret
        have := he'.out
        have := hst'.out
        refine ⟨_, rfl, ?_, by omega, by omega, G1⟩
        unfold SzRel at *
        omega
      · go_roundw
        case rel =>
          have := he'.out
          have := hst'.out
          have := hr.le (by omega)
          exact ⟨k + 1, r, by omega, by omega, by omega, by omega, rfl, by go_num, G1⟩
        case measure => simp [intOf]; omega
    · have hk' : k = l.length := by omega
      have hd0 : D.wts ((l.map GCell.toD).drop k) = 0 := by rw [hk', List.drop_eq_nil_of_le (by simp)]; rfl
      have he' := Lib.hid he
      have hd' := Lib.hid hd0
      have hk'' := Lib.hid hk'
      clear he hd0 hk'
      go_wp2_with fail
      go_ret
      have := he'.out
      have := hd'.out
      refine ⟨_, rfl, ?_, by omega, by omega, hb⟩
      unfold SzRel
      omega

theorem GCell.szSaid (x : GCell) : SzSaid Try.prog 28 x.toD := GCell.szSaid_of x 
theorem CellS_szSaid (l : List GCell) : SzsSaid Try.prog 27 (l.map GCell.toD) := CellS_szSaid_of l fun x _ => x.szSaid

theorem GNb.szSaid_of (x : GNb) (hE0 : SzsSaid Try.prog 27 (x.cells.map GCell.toD)) : SzSaid Try.prog 6 x.toD := by
  intro w fp cs left hR hwf h0 h1
  rw [GNb.wt_eq]
  rw [GNb.toD_eq] at hwf
  obtain ⟨hw0, _⟩ := hwf
  obtain ⟨v0, f0, rfl, rfl, hS0⟩ := GNb.opened.1 hR
  obtain ⟨A0, c0, rfl, hq0a, hq0b⟩ := hS0.formT
  clear hq0a hq0b
  clear hR
  have H0 : SzRel left 0 left := Or.inr ⟨h0, (Int.sub_zero _).symm⟩
  go_enter Try.func6, Try.ntmps6
  go_wp2_with fail
  refine (hE0 _ _ _ _ (hS0.below ((Below.refl _ _).alloc (Nat.le_refl _) _)) hw0 (by omega) (by omega)).mono ?_
  rintro e w1 ⟨r1, rfl, hr1, hra1, hrb1, hb1⟩
  have hz1 : w.heap.size + 1 ≤ w1.heap.size := by simpa using hb1.size
  obtain ⟨hcc1, hcf1⟩ := bcell hb1
  have G1 : Below w.heap.size w w1 := ((Below.refl _ _).alloc (Nat.le_refl _) _).trans (hb1.mono (by simp))
  have H1 := H0.step (by omega) hr1
  go_wp2_with fail
  · go_ret
    exact ⟨_, rfl, H1.stop (by omega) 0, by omega, by omega, G1⟩
  go_ret
  exact ⟨_, rfl, H1, by omega, by omega, G1⟩

theorem GNb.szSaid (x : GNb) : SzSaid Try.prog 6 x.toD := GNb.szSaid_of x (CellS_szSaid _)
theorem GEdit.szSaid_of (x : GEdit) (hE0 : SzSaid Try.prog 28 x.cell.toD) : SzSaid Try.prog 7 x.toD := by
  intro w fp cs left hR hwf h0 h1
  rw [GEdit.wt_eq]
  rw [GEdit.toD_eq] at hwf
  obtain ⟨_, _, hw2, _⟩ := hwf
  have hq := GEdit.opened.1 hR
  obtain ⟨rfl, rfl⟩ := hq
  clear hR
  have H0 : SzRel left 0 left := Or.inr ⟨h0, (Int.sub_zero _).symm⟩
  go_enter Try.func7, Try.ntmps7
  go_wp2_with fail
  refine (hE0 _ _ _ _ (GCell.opened.2 ⟨rfl, rfl⟩) hw2 (by omega) (by omega)).mono ?_
  rintro e w1 ⟨r1, rfl, hr1, hra1, hrb1, hb1⟩
  have hz1 : w.heap.size + 1 ≤ w1.heap.size := by simpa using hb1.size
  obtain ⟨hcc1, hcf1⟩ := bcell hb1
  have G1 : Below w.heap.size w w1 := ((Below.refl _ _).alloc (Nat.le_refl _) _).trans (hb1.mono (by simp))
  have H1 := H0.step (by omega) hr1
  go_wp2_with fail
  · go_ret
    exact ⟨_, rfl, H1.stop (by omega) 0, by omega, by omega, G1⟩
  go_ret
  exact ⟨_, rfl, H1, by omega, by omega, G1⟩

theorem EditS_szSaid_of (l : List GEdit) (hE : ∀ x ∈ l, SzSaid Try.prog 7 x.toD) : SzsSaid Try.prog 18 (l.map GEdit.toD) := by
  intro w fp v left hS hwf h0 h1
  obtain ⟨A, c, rfl, hl, hc⟩ := hS.formT
  rw [List.length_map]
  have hm : l.length ≤ 9223372036854775807 := by unfold maxLen at hc; omega
  clear hc hl
  go_enter Try.func18, Try.ntmps18
  go_wp2_with fail
  · go_ret
    exact ⟨_, rfl, (SzRel.out (k := l.length) (by omega)).stop (by omega) _, by omega, by omega, Below.refl _ _⟩
  go_loopw [1, 5] (fun lv iv wr => ∃ (k : Nat) (m : Int), k ≤ l.length ∧ 0 ≤ m ∧ m ≤ left ∧ m + D.wts (l.map GEdit.toD) = left - l.length + D.wts ((l.map GEdit.toD).drop k) ∧ lv = .int .i64 m ∧ iv = .int .i64 k ∧ Below w.heap.size w wr) (fun _ iv _ => l.length - (intOf iv).toNat)
  case atStart => exact ⟨0, left - l.length, by omega, by omega, by omega, rfl, rfl, rfl, Below.refl _ _⟩
  case round =>
    obtain ⟨k, m, hk, hm0, hm1, he, rfl, rfl, hb⟩ := hrel
    by_cases hlt : k < l.length
    · have hd : (l.map GEdit.toD)[k]? = some (GEdit.toD l[k]) := by rw [List.getElem?_map, List.getElem?_eq_getElem hlt]; rfl
      obtain ⟨b, o, fi, ci, rfl, hbb, hbf, hri, hfi, hat⟩ := hS.elem GEdit.szs hd
      have hwk := D.wfs_get hwf (List.mem_of_getElem? hd)
      have hst := D.wts_drop (l.map GEdit.toD) k (by simpa using hlt)
      rw [List.getElem_map] at hst
      have hri' := hri
      obtain ⟨rfl, rfl⟩ := GEdit.opened.1 hri
      have q0 := (hb.cell (p := ⟨b, o + k * 8, none⟩) hbb).trans (hat.head)
      have q1 := (hb.cell (p := ⟨b, o + k * 8 + 1, none⟩) hbb).trans (hat.nth 1 rfl)
      have q2 := (hb.cell (p := ⟨b, o + k * 8 + 2, none⟩) hbb).trans (hat.nth 2 rfl)
      have q3 := (hb.cell (p := ⟨b, o + k * 8 + 3, none⟩) hbb).trans (hat.nth 3 rfl)
      have q4 := (hb.cell (p := ⟨b, o + k * 8 + 4, none⟩) hbb).trans (hat.nth 4 rfl)
      have q5 := (hb.cell (p := ⟨b, o + k * 8 + 5, none⟩) hbb).trans (hat.nth 5 rfl)
      have q6 := (hb.cell (p := ⟨b, o + k * 8 + 6, none⟩) hbb).trans (hat.nth 6 rfl)
      have q7 := (hb.cell (p := ⟨b, o + k * 8 + 7, none⟩) hbb).trans (hat.nth 7 rfl)
      have hst' := Lib.hid hst
      have he' := Lib.hid he
      clear hat hst he hd
      go_wp2_with fail
      refine (hE _ (List.getElem_mem hlt) _ _ _ _ (hri'.same (fun x hx => hb.block x (hS.lt x (hfi x hx))) hb.size) hwk (by omega) (by omega)).mono ?_
      rintro e w1 ⟨r, rfl, hr, hra, hrb, hb1⟩
      have G1 : Below w.heap.size w w1 := hb.trans (hb1.mono hb.size)
      go_wp2_with fail
      · go_ret
        have := he'.out
        have := hst'.out
        refine ⟨_, rfl, ?_, by omega, by omega, G1⟩
        unfold SzRel at *
        omega
      · go_roundw
        case rel =>
          have := he'.out
          have := hst'.out
          have := hr.le (by omega)
          exact ⟨k + 1, r, by omega, by omega, by omega, by omega, rfl, by go_num, G1⟩
        case measure => simp [intOf]; omega
    · have hk' : k = l.length := by omega
      have hd0 : D.wts ((l.map GEdit.toD).drop k) = 0 := by rw [hk', List.drop_eq_nil_of_le (by simp)]; rfl
      have he' := Lib.hid he
      have hd' := Lib.hid hd0
      have hk'' := Lib.hid hk'
      clear he hd0 hk'
      go_wp2_with fail
      go_ret
      have := he'.out
      have := hd'.out
      refine ⟨_, rfl, ?_, by omega, by omega, hb⟩
      unfold SzRel
      omega

theorem GEdit.szSaid (x : GEdit) : SzSaid Try.prog 7 x.toD := GEdit.szSaid_of x (GCell.szSaid _)
theorem EditS_szSaid (l : List GEdit) : SzsSaid Try.prog 18 (l.map GEdit.toD) := EditS_szSaid_of l fun x _ => x.szSaid

end Go.Proofs.Ytokplliaejbbdaa
