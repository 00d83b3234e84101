/-
  The laws' functions that weigh an argument (szCell, szCellS ..): each takes the weight off the budget, or answers -1.
-/
import Derived.Test.YtdjcflnemnknaaaDoorTypes
import Derived.Test.YtdjcflnemnknaaaDoorProg
namespace Go.Proofs.YtdjcflnemnknaaaDoor
open Go.RowKit
set_option linter.unusedSimpArgs false
set_option linter.unusedVariables false

theorem Int_szs_wts (l : List Int) : D.wts (l.map li) = 0 := by
  induction l with
  | nil => rfl
  | cons x l ih => rw [List.map_cons, D.wts, ih]; rfl
theorem IntS_szSaid (l : List Int) : SzsSaid Tryd.prog 101 (l.map li) := by
  intro w fp v left hS hwf h0 h1
  obtain ⟨A, c, rfl, hl, hc⟩ := hS.formT
  rw [Int_szs_wts, List.length_map]
  have hm : l.length ≤ 9223372036854775807 := by unfold maxLen at hc; omega
  clear hS hc hl
  go_enter Tryd.func101, Tryd.ntmps101
  go_wp2
  · go_ret
    exact ⟨_, rfl, SzRel.out (by omega), by omega, by omega, Below.refl _ _⟩
  · go_ret
    exact ⟨_, rfl, SzRel.sub (by omega), by omega, by omega, Below.refl _ _⟩

theorem StringS_szSaid_of (l : List ByteArray) : SzsSaid Tryd.prog 43 (l.map ls) := by
  intro w fp v left hS hwf h0 h1
  obtain ⟨A, c, rfl, hl, hc⟩ := hS.formT
  rw [List.length_map]
  have hm : l.length ≤ 9223372036854775807 := by unfold maxLen at hc; omega
  clear hc hl
  go_enter Tryd.func43, Tryd.ntmps43
  go_wp2_with fail
  · go_ret
    exact ⟨_, rfl, (SzRel.out (k := l.length) (by omega)).stop (by omega) _, by omega, by omega, Below.refl _ _⟩
  go_loopw [1, 5] (fun lv iv wr => ∃ (k : Nat) (m : Int), k ≤ l.length ∧ 0 ≤ m ∧ m ≤ left ∧ m + D.wts (l.map ls) = left - l.length + D.wts ((l.map ls).drop k) ∧ lv = .int .i64 m ∧ iv = .int .i64 k ∧ Below w.heap.size w wr) (fun _ iv _ => l.length - (intOf iv).toNat)
  case atStart => exact ⟨0, left - l.length, by omega, by omega, by omega, rfl, rfl, rfl, Below.refl _ _⟩
  case round =>
    obtain ⟨k, m, hk, hm0, hm1, he, rfl, rfl, hb⟩ := hrel
    by_cases hlt : k < l.length
    · have hd : (l.map ls)[k]? = some (ls l[k]) := by rw [List.getElem?_map, List.getElem?_eq_getElem hlt]; rfl
      obtain ⟨b, o, fi, ci, rfl, hbb, hbf, hri, hfi, hat⟩ := hS.elem ls_szs hd
      have hwk := D.wfs_get hwf (List.mem_of_getElem? hd)
      have hst := D.wts_drop (l.map ls) k (by simpa using hlt)
      rw [List.getElem_map] at hst
      have hri' := hri
      obtain ⟨rfl, rfl⟩ := hri
      clear hri'
      have hw : (l[k]).size ≤ 9223372036854775807 := hwk
      have q0 : wr.cell? ⟨b, o + k, none⟩ = some (.string l[k]) := (hb.cell (p := ⟨b, o + k, none⟩) hbb).trans (by simpa using hat.head)
      have hst' : D.wts ((l.map ls).drop k) = (l[k]).size + D.wts ((l.map ls).drop (k + 1)) := hst
      have he' := Lib.hid he
      clear hat hwk hst he hd
      go_wp2_with fail
      · go_ret
        have := he'.out
        exact ⟨_, rfl, SzRel.out (by omega), by omega, by omega, hb⟩
      · go_roundw
        case rel =>
          have := he'.out
          exact ⟨k + 1, _, by omega, by omega, by omega, by omega, rfl, by go_num, hb⟩
        case measure => simp [intOf]; omega
    · have hk' : k = l.length := by omega
      have hd0 : D.wts ((l.map ls).drop k) = 0 := by rw [hk', List.drop_eq_nil_of_le (by simp)]; rfl
      have he' := Lib.hid he
      have hd' := Lib.hid hd0
      have hk'' := Lib.hid hk'
      clear he hd0 hk'
      go_wp2_with fail
      go_ret
      have := he'.out
      have := hd'.out
      refine ⟨_, rfl, ?_, by omega, by omega, hb⟩
      unfold SzRel
      omega

theorem StringS_szSaid (l : List ByteArray) : SzsSaid Tryd.prog 43 (l.map ls) := StringS_szSaid_of l

theorem Origin_szs_wts (l : List GOrigin) : D.wts (l.map GOrigin.toD) = 0 := by
  induction l with
  | nil => rfl
  | cons x l ih => rw [List.map_cons, D.wts, ih]; rfl
theorem OriginS_szSaid (l : List GOrigin) : SzsSaid Tryd.prog 102 (l.map GOrigin.toD) := by
  intro w fp v left hS hwf h0 h1
  obtain ⟨A, c, rfl, hl, hc⟩ := hS.formT
  rw [Origin_szs_wts, List.length_map]
  have hm : l.length ≤ 9223372036854775807 := by unfold maxLen at hc; omega
  clear hS hc hl
  go_enter Tryd.func102, Tryd.ntmps102
  go_wp2
  · go_ret
    exact ⟨_, rfl, SzRel.out (by omega), by omega, by omega, Below.refl _ _⟩
  · go_ret
    exact ⟨_, rfl, SzRel.sub (by omega), by omega, by omega, Below.refl _ _⟩

theorem GRow.szSaid_of (x : GRow) (hE0 : SzsSaid Tryd.prog 101 (x.cells.map li)) (hE1 : SzsSaid Tryd.prog 102 (x.src.map GOrigin.toD)) : SzSaid Tryd.prog 77 x.toD := by
  intro w fp cs left hR hwf h0 h1
  rw [GRow.wt_eq]
  rw [GRow.toD_eq] at hwf
  obtain ⟨hw0, hw1, _⟩ := hwf
  obtain ⟨v0, v1, f0, f1, rfl, rfl, hS0, hS1⟩ := GRow.opened.1 hR
  obtain ⟨A0, c0, rfl, hq0a, hq0b⟩ := hS0.formT
  obtain ⟨A1, c1, rfl, hq1a, hq1b⟩ := hS1.formT
  clear hq0a hq0b
  clear hq1a hq1b
  clear hR
  have H0 : SzRel left 0 left := Or.inr ⟨h0, (Int.sub_zero _).symm⟩
  go_enter Tryd.func77, Tryd.ntmps77
  go_wp2_with fail
  refine (hE0 _ _ _ _ (hS0.below ((Below.refl _ _).alloc (Nat.le_refl _) _)) hw0 (by omega) (by omega)).mono ?_
  rintro e w1 ⟨r1, rfl, hr1, hra1, hrb1, hb1⟩
  have hz1 : w.heap.size + 1 ≤ w1.heap.size := by simpa using hb1.size
  obtain ⟨hcc1, hcf1⟩ := bcell hb1
  have G1 : Below w.heap.size w w1 := ((Below.refl _ _).alloc (Nat.le_refl _) _).trans (hb1.mono (by simp))
  have H1 := H0.step (by omega) hr1
  go_wp2_with fail
  · go_ret
    exact ⟨_, rfl, (H1).stop (by omega) _, by omega, by omega, G1⟩
  refine (hE1 _ _ _ _ (hS1.below (G1)) hw1 (by omega) (by omega)).mono ?_
  rintro e w2 ⟨r2, rfl, hr2, hra2, hrb2, hb2⟩
  have hz2 : w.heap.size + 1 ≤ w2.heap.size := Nat.le_trans hz1 hb2.size
  have hcc2 : ∀ o, w2.cell? ⟨w.heap.size, o, none⟩ = w1.cell? ⟨w.heap.size, o, none⟩ := fun o => hb2.cell (p := ⟨w.heap.size, o, none⟩) hz1
  have G2 : Below w.heap.size w w2 := (G1).trans (hb2.mono (by omega))
  have H2 := H1.step (by omega) hr2
  go_wp2_with fail
  · go_ret
    exact ⟨_, rfl, H2.stop (by omega) 0, by omega, by omega, G2⟩
  go_ret
  exact ⟨_, rfl, H2, by omega, by omega, G2⟩

theorem RowS_szSaid_of (l : List GRow) (hE : ∀ x ∈ l, SzSaid Tryd.prog 77 x.toD) : SzsSaid Tryd.prog 44 (l.map GRow.toD) := by
  intro w fp v left hS hwf h0 h1
  obtain ⟨A, c, rfl, hl, hc⟩ := hS.formT
  rw [List.length_map]
  have hm : l.length ≤ 9223372036854775807 := by unfold maxLen at hc; omega
  clear hc hl
  go_enter Tryd.func44, Tryd.ntmps44
  go_wp2_with fail
  · go_ret
    exact ⟨_, rfl, (SzRel.out (k := l.length) (by omega)).stop (by omega) _, by omega, by omega, Below.refl _ _⟩
  go_loopw [1, 5] (fun lv iv wr => ∃ (k : Nat) (m : Int), k ≤ l.length ∧ 0 ≤ m ∧ m ≤ left ∧ m + D.wts (l.map GRow.toD) = left - l.length + D.wts ((l.map GRow.toD).drop k) ∧ lv = .int .i64 m ∧ iv = .int .i64 k ∧ Below w.heap.size w wr) (fun _ iv _ => l.length - (intOf iv).toNat)
  case atStart => exact ⟨0, left - l.length, by omega, by omega, by omega, rfl, rfl, rfl, Below.refl _ _⟩
  case round =>
    obtain ⟨k, m, hk, hm0, hm1, he, rfl, rfl, hb⟩ := hrel
    by_cases hlt : k < l.length
    · have hd : (l.map GRow.toD)[k]? = some (GRow.toD l[k]) := by rw [List.getElem?_map, List.getElem?_eq_getElem hlt]; rfl
      obtain ⟨b, o, fi, ci, rfl, hbb, hbf, hri, hfi, hat⟩ := hS.elem GRow.szs hd
      have hwk := D.wfs_get hwf (List.mem_of_getElem? hd)
      have hst := D.wts_drop (l.map GRow.toD) k (by simpa using hlt)
      rw [List.getElem_map] at hst
      have hri' := hri
      obtain ⟨v0, v1, g0, g1, rfl, rfl, hT0, hT1⟩ := GRow.opened.1 hri
      obtain ⟨A0, c0, rfl, hq0a, hq0b⟩ := hT0.formT
      obtain ⟨A1, c1, rfl, hq1a, hq1b⟩ := hT1.formT
      clear hq0a hq0b hT0
      clear hq1a hq1b hT1
      have q0 := (hb.cell (p := ⟨b, o + k * 2, none⟩) hbb).trans (hat.head)
      have q1 := (hb.cell (p := ⟨b, o + k * 2 + 1, none⟩) hbb).trans (hat.nth 1 rfl)
      have hst' := Lib.hid hst
      have he' := Lib.hid he
      clear hat hst he hd
      go_wp2_with fail
      refine (hE _ (List.getElem_mem hlt) _ _ _ _ (hri'.same (fun x hx => hb.block x (hS.lt x (hfi x hx))) hb.size) hwk (by omega) (by omega)).mono ?_
      rintro e w1 ⟨r, rfl, hr, hra, hrb, hb1⟩
      have G1 : Below w.heap.size w w1 := hb.trans (hb1.mono hb.size)
      go_wp2_with fail
      · go_ret
        have := he'.out
        have := hst'.out
        refine ⟨_, rfl, ?_, by omega, by omega, G1⟩
        unfold SzRel at *
        omega
      · go_roundw
        case rel =>
          have := he'.out
          have := hst'.out
          have := hr.le (by omega)
          exact ⟨k + 1, r, by omega, by omega, by omega, by omega, rfl, by go_num, G1⟩
        case measure => simp [intOf]; omega
    · have hk' : k = l.length := by omega
      have hd0 : D.wts ((l.map GRow.toD).drop k) = 0 := by rw [hk', List.drop_eq_nil_of_le (by simp)]; rfl
      have he' := Lib.hid he
      have hd' := Lib.hid hd0
      have hk'' := Lib.hid hk'
      clear he hd0 hk'
      go_wp2_with fail
      go_ret
      have := he'.out
      have := hd'.out
      refine ⟨_, rfl, ?_, by omega, by omega, hb⟩
      unfold SzRel
      omega

theorem GRow.szSaid (x : GRow) : SzSaid Tryd.prog 77 x.toD := GRow.szSaid_of x (IntS_szSaid _) (OriginS_szSaid _)
theorem RowS_szSaid (l : List GRow) : SzsSaid Tryd.prog 44 (l.map GRow.toD) := RowS_szSaid_of l fun x _ => x.szSaid

theorem GVal.szSaid_of (x : GVal) (hE0 : SzsSaid Tryd.prog 42 (x.list.map GVal.toD)) (hE1 : SzsSaid Tryd.prog 43 (x.cols.map ls)) (hE2 : SzsSaid Tryd.prog 44 (x.rows.map GRow.toD)) : SzSaid Tryd.prog 18 x.toD := by
  intro w fp cs left hR hwf h0 h1
  rw [GVal.wt_eq]
  rw [GVal.toD_eq] at hwf
  obtain ⟨_, _, _, hw3, hw4, hw5, hw6, _⟩ := hwf
  obtain ⟨v0, v1, v2, f0, f1, f2, rfl, rfl, hS0, hS1, hS2⟩ := GVal.opened.1 hR
  obtain ⟨A0, c0, rfl, hq0a, hq0b⟩ := hS0.formT
  obtain ⟨A1, c1, rfl, hq1a, hq1b⟩ := hS1.formT
  obtain ⟨A2, c2, rfl, hq2a, hq2b⟩ := hS2.formT
  clear hq0a hq0b
  clear hq1a hq1b
  clear hq2a hq2b
  replace hw3 : x.text.size ≤ 9223372036854775807 := hw3
  clear hR
  have H0 : SzRel left 0 left := Or.inr ⟨h0, (Int.sub_zero _).symm⟩
  go_enter Tryd.func18, Tryd.ntmps18
  go_wp2_with fail
  · go_ret
    exact ⟨_, rfl, ((((H0.step (by omega) (SzRel.out (by omega))).stop (by omega) _).stop (by omega) _).stop (by omega) _), by omega, by omega, (Below.refl _ _).alloc (Nat.le_refl _) _⟩
  refine (hE0 _ _ _ _ (hS0.below ((Below.refl _ _).alloc (Nat.le_refl _) _)) hw4 (by omega) (by omega)).mono ?_
  rintro e w1 ⟨r1, rfl, hr1, hra1, hrb1, hb1⟩
  have hz1 : w.heap.size + 1 ≤ w1.heap.size := by simpa using hb1.size
  obtain ⟨hcc1, hcf1⟩ := bcell hb1
  have G1 : Below w.heap.size w w1 := ((Below.refl _ _).alloc (Nat.le_refl _) _).trans (hb1.mono (by simp))
  have H2 := (H0.step (by omega) (SzRel.sub (k := x.text.size) (by omega))).step (by omega) hr1
  go_wp2_with fail
  · go_ret
    exact ⟨_, rfl, ((H2).stop (by omega) _).stop (by omega) _, by omega, by omega, G1⟩
  refine (hE1 _ _ _ _ (hS1.below (G1)) hw5 (by omega) (by omega)).mono ?_
  rintro e w2 ⟨r2, rfl, hr2, hra2, hrb2, hb2⟩
  have hz2 : w.heap.size + 1 ≤ w2.heap.size := Nat.le_trans hz1 hb2.size
  have hcc2 : ∀ o, w2.cell? ⟨w.heap.size, o, none⟩ = w1.cell? ⟨w.heap.size, o, none⟩ := fun o => hb2.cell (p := ⟨w.heap.size, o, none⟩) hz1
  have G2 : Below w.heap.size w w2 := (G1).trans (hb2.mono (by omega))
  have H3 := H2.step (by omega) hr2
  go_wp2_with fail
  · go_ret
    exact ⟨_, rfl, (H3).stop (by omega) _, by omega, by omega, G2⟩
  refine (hE2 _ _ _ _ (hS2.below (G2)) hw6 (by omega) (by omega)).mono ?_
  rintro e w3 ⟨r3, rfl, hr3, hra3, hrb3, hb3⟩
  have hz3 : w.heap.size + 1 ≤ w3.heap.size := Nat.le_trans hz2 hb3.size
  have hcc3 : ∀ o, w3.cell? ⟨w.heap.size, o, none⟩ = w2.cell? ⟨w.heap.size, o, none⟩ := fun o => hb3.cell (p := ⟨w.heap.size, o, none⟩) hz2
  have G3 : Below w.heap.size w w3 := (G2).trans (hb3.mono (by omega))
  have H4 := H3.step (by omega) hr3
  go_wp2_with fail
  · go_ret
    exact ⟨_, rfl, H4.stop (by omega) 0, by omega, by omega, G3⟩
  go_ret
  exact ⟨_, rfl, H4, by omega, by omega, G3⟩

theorem ValueS_szSaid_of (l : List GVal) (hE : ∀ x ∈ l, SzSaid Tryd.prog 18 x.toD) : SzsSaid Tryd.prog 42 (l.map GVal.toD) := by
  intro w fp v left hS hwf h0 h1
  obtain ⟨A, c, rfl, hl, hc⟩ := hS.formT
  rw [List.length_map]
  have hm : l.length ≤ 9223372036854775807 := by unfold maxLen at hc; omega
  clear hc hl
  go_enter Tryd.func42, Tryd.ntmps42
  go_wp2_with fail
  · go_ret
    exact ⟨_, rfl, (SzRel.out (k := l.length) (by omega)).stop (by omega) _, by omega, by omega, Below.refl _ _⟩
  go_loopw [1, 5] (fun lv iv wr => ∃ (k : Nat) (m : Int), k ≤ l.length ∧ 0 ≤ m ∧ m ≤ left ∧ m + D.wts (l.map GVal.toD) = left - l.length + D.wts ((l.map GVal.toD).drop k) ∧ lv = .int .i64 m ∧ iv = .int .i64 k ∧ Below w.heap.size w wr) (fun _ iv _ => l.length - (intOf iv).toNat)
  case atStart => exact ⟨0, left - l.length, by omega, by omega, by omega, rfl, rfl, rfl, Below.refl _ _⟩
  case round =>
    obtain ⟨k, m, hk, hm0, hm1, he, rfl, rfl, hb⟩ := hrel
    by_cases hlt : k < l.length
    · have hd : (l.map GVal.toD)[k]? = some (GVal.toD l[k]) := by rw [List.getElem?_map, List.getElem?_eq_getElem hlt]; rfl
      obtain ⟨b, o, fi, ci, rfl, hbb, hbf, hri, hfi, hat⟩ := hS.elem GVal.szs hd
      have hwk := D.wfs_get hwf (List.mem_of_getElem? hd)
      have hst := D.wts_drop (l.map GVal.toD) k (by simpa using hlt)
      rw [List.getElem_map] at hst
      have hri' := hri
      obtain ⟨v0, v1, v2, g0, g1, g2, rfl, rfl, hT0, hT1, hT2⟩ := GVal.opened.1 hri
      obtain ⟨A0, c0, rfl, hq0a, hq0b⟩ := hT0.formT
      obtain ⟨A1, c1, rfl, hq1a, hq1b⟩ := hT1.formT
      obtain ⟨A2, c2, rfl, hq2a, hq2b⟩ := hT2.formT
      clear hq0a hq0b hT0
      clear hq1a hq1b hT1
      clear hq2a hq2b hT2
      have q0 := (hb.cell (p := ⟨b, o + k * 7, none⟩) hbb).trans (hat.head)
      have q1 := (hb.cell (p := ⟨b, o + k * 7 + 1, none⟩) hbb).trans (hat.nth 1 rfl)
      have q2 := (hb.cell (p := ⟨b, o + k * 7 + 2, none⟩) hbb).trans (hat.nth 2 rfl)
      have q3 := (hb.cell (p := ⟨b, o + k * 7 + 3, none⟩) hbb).trans (hat.nth 3 rfl)
      have q4 := (hb.cell (p := ⟨b, o + k * 7 + 4, none⟩) hbb).trans (hat.nth 4 rfl)
      have q5 := (hb.cell (p := ⟨b, o + k * 7 + 5, none⟩) hbb).trans (hat.nth 5 rfl)
      have q6 := (hb.cell (p := ⟨b, o + k * 7 + 6, none⟩) hbb).trans (hat.nth 6 rfl)
      have hst' := Lib.hid hst
      have he' := Lib.hid he
      clear hat hst he hd
      go_wp2_with fail
      refine (hE _ (List.getElem_mem hlt) _ _ _ _ (hri'.same (fun x hx => hb.block x (hS.lt x (hfi x hx))) hb.size) hwk (by omega) (by omega)).mono ?_
      rintro e w1 ⟨r, rfl, hr, hra, hrb, hb1⟩
      have G1 : Below w.heap.size w w1 := hb.trans (hb1.mono hb.size)
      go_wp2_with fail
      · go_ret
        have := he'.out
        have := hst'.out
        refine ⟨_, rfl, ?_, by omega, by omega, G1⟩
        unfold SzRel at *
        omega
      · go_roundw
        case rel =>
          have := he'.out
          have := hst'.out
          have := hr.le (by omega)
          exact ⟨k + 1, r, by omega, by omega, by omega, by omega, rfl, by go_num, G1⟩
        case measure => simp [intOf]; omega
    · have hk' : k = l.length := by omega
      have hd0 : D.wts ((l.map GVal.toD).drop k) = 0 := by rw [hk', List.drop_eq_nil_of_le (by simp)]; rfl
      have he' := Lib.hid he
      have hd' := Lib.hid hd0
      have hk'' := Lib.hid hk'
      clear he hd0 hk'
      go_wp2_with fail
      go_ret
      have := he'.out
      have := hd'.out
      refine ⟨_, rfl, ?_, by omega, by omega, hb⟩
      unfold SzRel
      omega

theorem GVal.szSaid (x : GVal) : SzSaid Tryd.prog 18 x.toD := GVal.szSaid_of x (ValueS_szSaid_of _ fun y hy => GVal.szSaid y) (StringS_szSaid _) (RowS_szSaid _)
termination_by SizeOf.sizeOf x
decreasing_by exact GVal.lt_of_mem hy
theorem ValueS_szSaid (l : List GVal) : SzsSaid Tryd.prog 42 (l.map GVal.toD) := ValueS_szSaid_of l fun x _ => x.szSaid

theorem GCell.szSaid_of (x : GCell) : SzSaid Tryd.prog 9 x.toD := by
  intro w fp cs left hR hwf h0 h1
  rw [GCell.wt_eq]
  rw [GCell.toD_eq] at hwf
  obtain ⟨_, _, _, hw3, hw4, _, _⟩ := hwf
  have hq := GCell.opened.1 hR
  obtain ⟨rfl, rfl⟩ := hq
  replace hw3 : x.name.size ≤ 9223372036854775807 := hw3
  replace hw4 : x.code.size ≤ 9223372036854775807 := hw4
  clear hR
  have H0 : SzRel left 0 left := Or.inr ⟨h0, (Int.sub_zero _).symm⟩
  go_enter Tryd.func9, Tryd.ntmps9
  go_wp2_with fail
  · go_ret
    exact ⟨_, rfl, ((H0.step (by omega) (SzRel.out (by omega))).stop (by omega) _), by omega, by omega, (Below.refl _ _).alloc (Nat.le_refl _) _⟩
  · go_ret
    exact ⟨_, rfl, ((H0.step (by omega) (SzRel.sub (k := x.name.size) (by omega))).step (by omega) (SzRel.out (by omega))), by omega, by omega, (Below.refl _ _).alloc (Nat.le_refl _) _⟩
  go_ret
  exact ⟨_, rfl, ((H0.step (by omega) (SzRel.sub (k := x.name.size) (by omega))).step (by omega) (SzRel.sub (k := x.code.size) (by omega))), by omega, by omega, (Below.refl _ _).alloc (Nat.le_refl _) _⟩

theorem CellS_szSaid_of (l : List GCell) (hE : ∀ x ∈ l, SzSaid Tryd.prog 9 x.toD) : SzsSaid Tryd.prog 37 (l.map GCell.toD) := by
  intro w fp v left hS hwf h0 h1
  obtain ⟨A, c, rfl, hl, hc⟩ := hS.formT
  rw [List.length_map]
  have hm : l.length ≤ 9223372036854775807 := by unfold maxLen at hc; omega
  clear hc hl
  go_enter Tryd.func37, Tryd.ntmps37
  go_wp2_with fail
  · go_ret
    exact ⟨_, rfl, (SzRel.out (k := l.length) (by omega)).stop (by omega) _, by omega, by omega, Below.refl _ _⟩
  go_loopw [1, 5] (fun lv iv wr => ∃ (k : Nat) (m : Int), k ≤ l.length ∧ 0 ≤ m ∧ m ≤ left ∧ m + D.wts (l.map GCell.toD) = left - l.length + D.wts ((l.map GCell.toD).drop k) ∧ lv = .int .i64 m ∧ iv = .int .i64 k ∧ Below w.heap.size w wr) (fun _ iv _ => l.length - (intOf iv).toNat)
  case atStart => exact ⟨0, left - l.length, by omega, by omega, by omega, rfl, rfl, rfl, Below.refl _ _⟩
  case round =>
    obtain ⟨k, m, hk, hm0, hm1, he, rfl, rfl, hb⟩ := hrel
    by_cases hlt : k < l.length
    · have hd : (l.map GCell.toD)[k]? = some (GCell.toD l[k]) := by rw [List.getElem?_map, List.getElem?_eq_getElem hlt]; rfl
      obtain ⟨b, o, fi, ci, rfl, hbb, hbf, hri, hfi, hat⟩ := hS.elem GCell.szs hd
      have hwk := D.wfs_get hwf (List.mem_of_getElem? hd)
      have hst := D.wts_drop (l.map GCell.toD) k (by simpa using hlt)
      rw [List.getElem_map] at hst
      have hri' := hri
      obtain ⟨rfl, rfl⟩ := GCell.opened.1 hri
      have q0 := (hb.cell (p := ⟨b, o + k * 6, none⟩) hbb).trans (hat.head)
      have q1 := (hb.cell (p := ⟨b, o + k * 6 + 1, none⟩) hbb).trans (hat.nth 1 rfl)
      have q2 := (hb.cell (p := ⟨b, o + k * 6 + 2, none⟩) hbb).trans (hat.nth 2 rfl)
      have q3 := (hb.cell (p := ⟨b, o + k * 6 + 3, none⟩) hbb).trans (hat.nth 3 rfl)
      have q4 := (hb.cell (p := ⟨b, o + k * 6 + 4, none⟩) hbb).trans (hat.nth 4 rfl)
      have q5 := (hb.cell (p := ⟨b, o + k * 6 + 5, none⟩) hbb).trans (hat.nth 5 rfl)
      have hst' := Lib.hid hst
      have he' := Lib.hid he
      clear hat hst he hd
      go_wp2_with fail
      refine (hE _ (List.getElem_mem hlt) _ _ _ _ (hri'.same (fun x hx => hb.block x (hS.lt x (hfi x hx))) hb.size) hwk (by omega) (by omega)).mono ?_
      rintro e w1 ⟨r, rfl, hr, hra, hrb, hb1⟩
      have G1 : Below w.heap.size w w1 := hb.trans (hb1.mono hb.size)
      go_wp2_with fail
      · go_ret
        have := he'.out
        have := hst'.out
        refine ⟨_, rfl, ?_, by omega, by omega, G1⟩
        unfold SzRel at *
        omega
      · go_roundw
        case rel =>
          have := he'.out
          have := hst'.out
          have := hr.le (by omega)
          exact ⟨k + 1, r, by omega, by omega, by omega, by omega, rfl, by go_num, G1⟩
        case measure => simp [intOf]; omega
    · have hk' : k = l.length := by omega
      have hd0 : D.wts ((l.map GCell.toD).drop k) = 0 := by rw [hk', List.drop_eq_nil_of_le (by simp)]; rfl
      have he' := Lib.hid he
      have hd' := Lib.hid hd0
      have hk'' := Lib.hid hk'
      clear he hd0 hk'
      go_wp2_with fail
      go_ret
      have := he'.out
      have := hd'.out
      refine ⟨_, rfl, ?_, by omega, by omega, hb⟩
      unfold SzRel
      omega

theorem GCell.szSaid (x : GCell) : SzSaid Tryd.prog 9 x.toD := GCell.szSaid_of x 
theorem CellS_szSaid (l : List GCell) : SzsSaid Tryd.prog 37 (l.map GCell.toD) := CellS_szSaid_of l fun x _ => x.szSaid

theorem GNb.szSaid_of (x : GNb) (hE0 : SzsSaid Tryd.prog 37 (x.cells.map GCell.toD)) : SzSaid Tryd.prog 13 x.toD := by
  intro w fp cs left hR hwf h0 h1
  rw [GNb.wt_eq]
  rw [GNb.toD_eq] at hwf
  obtain ⟨hw0, _⟩ := hwf
  obtain ⟨v0, f0, rfl, rfl, hS0⟩ := GNb.opened.1 hR
  obtain ⟨A0, c0, rfl, hq0a, hq0b⟩ := hS0.formT
  clear hq0a hq0b
  clear hR
  have H0 : SzRel left 0 left := Or.inr ⟨h0, (Int.sub_zero _).symm⟩
  go_enter Tryd.func13, Tryd.ntmps13
  go_wp2_with fail
  refine (hE0 _ _ _ _ (hS0.below ((Below.refl _ _).alloc (Nat.le_refl _) _)) hw0 (by omega) (by omega)).mono ?_
  rintro e w1 ⟨r1, rfl, hr1, hra1, hrb1, hb1⟩
  have hz1 : w.heap.size + 1 ≤ w1.heap.size := by simpa using hb1.size
  obtain ⟨hcc1, hcf1⟩ := bcell hb1
  have G1 : Below w.heap.size w w1 := ((Below.refl _ _).alloc (Nat.le_refl _) _).trans (hb1.mono (by simp))
  have H1 := H0.step (by omega) hr1
  go_wp2_with fail
  · go_ret
    exact ⟨_, rfl, H1.stop (by omega) 0, by omega, by omega, G1⟩
  go_ret
  exact ⟨_, rfl, H1, by omega, by omega, G1⟩

theorem GNb.szSaid (x : GNb) : SzSaid Tryd.prog 13 x.toD := GNb.szSaid_of x (CellS_szSaid _)
end Go.Proofs.YtdjcflnemnknaaaDoor
