/-
  Texts joined: Sz To Eq.
-/
import Derived.Test.YtdjcflnemnknaaaDoorJA
import Derived.Test.YtdjcflnemnknaaaDoorProg
import Derived.KernelRfl
namespace Go.Proofs.YtdjcflnemnknaaaDoor
open Go.RowKit
set_option linter.unusedSimpArgs false
set_option linter.unusedVariables false

theorem Int_szs_wts (l : List Int) : D.wts (l.map li) = 0 := by
  induction l with
  | nil => rfl
  | cons x l ih => rw [List.map_cons, D.wts, ih]; rfl
theorem IntS_szSaid (l : List Int) : SzsSaid Tryd.prog 101 (l.map li) := by
  intro w fp v left hS hwf h0 h1
  obtain ⟨A, c, rfl, hl, hc⟩ := hS.formT
  rw [Int_szs_wts, List.length_map]
  have hm : l.length ≤ 9223372036854775807 := by unfold maxLen at hc; omega
  clear hS hc hl
  go_enter Tryd.func101, Tryd.ntmps101
  go_wp2
  · go_ret
    exact ⟨_, rfl, SzRel.out (by omega), by omega, by omega, Below.refl _ _⟩
  · go_ret
    exact ⟨_, rfl, SzRel.sub (by omega), by omega, by omega, Below.refl _ _⟩

theorem StringS_szSaid_of (l : List ByteArray) : SzsSaid Tryd.prog 43 (l.map ls) := by
  intro w fp v left hS hwf h0 h1
  obtain ⟨A, c, rfl, hl, hc⟩ := hS.formT
  rw [List.length_map]
  have hm : l.length ≤ 9223372036854775807 := by unfold maxLen at hc; omega
  clear hc hl
  go_enter Tryd.func43, Tryd.ntmps43
  go_wp2_with fail
  · go_ret
    exact ⟨_, rfl, (SzRel.out (k := l.length) (by omega)).stop (by omega) _, by omega, by omega, Below.refl _ _⟩
  go_loopw [1, 5] (fun lv iv wr => ∃ (k : Nat) (m : Int), k ≤ l.length ∧ 0 ≤ m ∧ m ≤ left ∧ m + D.wts (l.map ls) = left - l.length + D.wts ((l.map ls).drop k) ∧ lv = .int .i64 m ∧ iv = .int .i64 k ∧ Below w.heap.size w wr) (fun _ iv _ => l.length - (intOf iv).toNat)
  case atStart => exact ⟨0, left - l.length, by omega, by omega, by omega, rfl, rfl, rfl, Below.refl _ _⟩
  case round =>
    obtain ⟨k, m, hk, hm0, hm1, he, rfl, rfl, hb⟩ := hrel
    by_cases hlt : k < l.length
    · have hd : (l.map ls)[k]? = some (ls l[k]) := by rw [List.getElem?_map, List.getElem?_eq_getElem hlt]; rfl
      obtain ⟨b, o, fi, ci, rfl, hbb, hbf, hri, hfi, hat⟩ := hS.elem ls_szs hd
      have hwk := D.wfs_get hwf (List.mem_of_getElem? hd)
      have hst := D.wts_drop (l.map ls) k (by simpa using hlt)
      rw [List.getElem_map] at hst
      have hri' := hri
      obtain ⟨rfl, rfl⟩ := hri
      clear hri'
      have hw : (l[k]).size ≤ 9223372036854775807 := hwk
      have q0 : wr.cell? ⟨b, o + k, none⟩ = some (.string l[k]) := (hb.cell (p := ⟨b, o + k, none⟩) hbb).trans (by simpa using hat.head)
      have hst' : D.wts ((l.map ls).drop k) = (l[k]).size + D.wts ((l.map ls).drop (k + 1)) := hst
      have he' := Lib.hid he
      clear hat hwk hst he hd
      go_wp2_with fail
      · go_ret
        have := he'.out
        exact ⟨_, rfl, SzRel.out (by omega), by omega, by omega, hb⟩
      · go_roundw
        case rel =>
          have := he'.out
          exact ⟨k + 1, _, by omega, by omega, by omega, by omega, rfl, by go_num, hb⟩
        case measure => simp [intOf]; omega
    · have hk' : k = l.length := by omega
      have hd0 : D.wts ((l.map ls).drop k) = 0 := by rw [hk', List.drop_eq_nil_of_le (by simp)]; rfl
      have he' := Lib.hid he
      have hd' := Lib.hid hd0
      have hk'' := Lib.hid hk'
      clear he hd0 hk'
      go_wp2_with fail
      go_ret
      have := he'.out
      have := hd'.out
      refine ⟨_, rfl, ?_, by omega, by omega, hb⟩
      unfold SzRel
      omega

theorem StringS_szSaid (l : List ByteArray) : SzsSaid Tryd.prog 43 (l.map ls) := StringS_szSaid_of l

theorem Origin_szs_wts (l : List GOrigin) : D.wts (l.map GOrigin.toD) = 0 := by
  induction l with
  | nil => rfl
  | cons x l ih => rw [List.map_cons, D.wts, ih]; rfl
theorem OriginS_szSaid (l : List GOrigin) : SzsSaid Tryd.prog 102 (l.map GOrigin.toD) := by
  intro w fp v left hS hwf h0 h1
  obtain ⟨A, c, rfl, hl, hc⟩ := hS.formT
  rw [Origin_szs_wts, List.length_map]
  have hm : l.length ≤ 9223372036854775807 := by unfold maxLen at hc; omega
  clear hS hc hl
  go_enter Tryd.func102, Tryd.ntmps102
  go_wp2
  · go_ret
    exact ⟨_, rfl, SzRel.out (by omega), by omega, by omega, Below.refl _ _⟩
  · go_ret
    exact ⟨_, rfl, SzRel.sub (by omega), by omega, by omega, Below.refl _ _⟩

theorem GRow.szSaid_of (x : GRow) (hE0 : SzsSaid Tryd.prog 101 (x.cells.map li)) (hE1 : SzsSaid Tryd.prog 102 (x.src.map GOrigin.toD)) : SzSaid Tryd.prog 77 x.toD := by
  intro w fp cs left hR hwf h0 h1
  rw [GRow.wt_eq]
  rw [GRow.toD_eq] at hwf
  obtain ⟨hw0, hw1, _⟩ := hwf
  obtain ⟨v0, v1, f0, f1, rfl, rfl, hS0, hS1⟩ := GRow.opened.1 hR
  obtain ⟨A0, c0, rfl, hq0a, hq0b⟩ := hS0.formT
  obtain ⟨A1, c1, rfl, hq1a, hq1b⟩ := hS1.formT
  clear hq0a hq0b
  clear hq1a hq1b
  clear hR
  have H0 : SzRel left 0 left := Or.inr ⟨h0, (Int.sub_zero _).symm⟩
  go_enter Tryd.func77, Tryd.ntmps77
  go_wp2_with fail
  refine (hE0 _ _ _ _ (hS0.below ((Below.refl _ _).alloc (Nat.le_refl _) _)) hw0 (by omega) (by omega)).mono ?_
  rintro e w1 ⟨r1, rfl, hr1, hra1, hrb1, hb1⟩
  have hz1 : w.heap.size + 1 ≤ w1.heap.size := by simpa using hb1.size
  obtain ⟨hcc1, hcf1⟩ := bcell hb1
  have G1 : Below w.heap.size w w1 := ((Below.refl _ _).alloc (Nat.le_refl _) _).trans (hb1.mono (by simp))
  have H1 := H0.step (by omega) hr1
  go_wp2_with fail
  · go_ret
    exact ⟨_, rfl, (H1).stop (by omega) _, by omega, by omega, G1⟩
  refine (hE1 _ _ _ _ (hS1.below (G1)) hw1 (by omega) (by omega)).mono ?_
  rintro e w2 ⟨r2, rfl, hr2, hra2, hrb2, hb2⟩
  have hz2 : w.heap.size + 1 ≤ w2.heap.size := Nat.le_trans hz1 hb2.size
  have hcc2 : ∀ o, w2.cell? ⟨w.heap.size, o, none⟩ = w1.cell? ⟨w.heap.size, o, none⟩ := fun o => hb2.cell (p := ⟨w.heap.size, o, none⟩) hz1
  have G2 : Below w.heap.size w w2 := (G1).trans (hb2.mono (by omega))
  have H2 := H1.step (by omega) hr2
  go_wp2_with fail
  · go_ret
    exact ⟨_, rfl, H2.stop (by omega) 0, by omega, by omega, G2⟩
  go_ret
  exact ⟨_, rfl, H2, by omega, by omega, G2⟩

theorem RowS_szSaid_of (l : List GRow) (hE : ∀ x ∈ l, SzSaid Tryd.prog 77 x.toD) : SzsSaid Tryd.prog 44 (l.map GRow.toD) := by
  intro w fp v left hS hwf h0 h1
  obtain ⟨A, c, rfl, hl, hc⟩ := hS.formT
  rw [List.length_map]
  have hm : l.length ≤ 9223372036854775807 := by unfold maxLen at hc; omega
  clear hc hl
  go_enter Tryd.func44, Tryd.ntmps44
  go_wp2_with fail
  · go_ret
    exact ⟨_, rfl, (SzRel.out (k := l.length) (by omega)).stop (by omega) _, by omega, by omega, Below.refl _ _⟩
  go_loopw [1, 5] (fun lv iv wr => ∃ (k : Nat) (m : Int), k ≤ l.length ∧ 0 ≤ m ∧ m ≤ left ∧ m + D.wts (l.map GRow.toD) = left - l.length + D.wts ((l.map GRow.toD).drop k) ∧ lv = .int .i64 m ∧ iv = .int .i64 k ∧ Below w.heap.size w wr) (fun _ iv _ => l.length - (intOf iv).toNat)
  case atStart => exact ⟨0, left - l.length, by omega, by omega, by omega, rfl, rfl, rfl, Below.refl _ _⟩
  case round =>
    obtain ⟨k, m, hk, hm0, hm1, he, rfl, rfl, hb⟩ := hrel
    by_cases hlt : k < l.length
    · have hd : (l.map GRow.toD)[k]? = some (GRow.toD l[k]) := by rw [List.getElem?_map, List.getElem?_eq_getElem hlt]; rfl
      obtain ⟨b, o, fi, ci, rfl, hbb, hbf, hri, hfi, hat⟩ := hS.elem GRow.szs hd
      have hwk := D.wfs_get hwf (List.mem_of_getElem? hd)
      have hst := D.wts_drop (l.map GRow.toD) k (by simpa using hlt)
      rw [List.getElem_map] at hst
      have hri' := hri
      obtain ⟨v0, v1, g0, g1, rfl, rfl, hT0, hT1⟩ := GRow.opened.1 hri
      obtain ⟨A0, c0, rfl, hq0a, hq0b⟩ := hT0.formT
      obtain ⟨A1, c1, rfl, hq1a, hq1b⟩ := hT1.formT
      clear hq0a hq0b hT0
      clear hq1a hq1b hT1
      have q0 := (hb.cell (p := ⟨b, o + k * 2, none⟩) hbb).trans (hat.head)
      have q1 := (hb.cell (p := ⟨b, o + k * 2 + 1, none⟩) hbb).trans (hat.nth 1 rfl)
      have hst' := Lib.hid hst
      have he' := Lib.hid he
      clear hat hst he hd
      go_wp2_with fail
      refine (hE _ (List.getElem_mem hlt) _ _ _ _ (hri'.same (fun x hx => hb.block x (hS.lt x (hfi x hx))) hb.size) hwk (by omega) (by omega)).mono ?_
      rintro e w1 ⟨r, rfl, hr, hra, hrb, hb1⟩
      have G1 : Below w.heap.size w w1 := hb.trans (hb1.mono hb.size)
      go_wp2_with fail
      · go_ret
        have := he'.out
        have := hst'.out
        refine ⟨_, rfl, ?_, by omega, by omega, G1⟩
        unfold SzRel at *
        omega
      · go_roundw
        case rel =>
          have := he'.out
          have := hst'.out
          have := hr.le (by omega)
          exact ⟨k + 1, r, by omega, by omega, by omega, by omega, rfl, by go_num, G1⟩
        case measure => simp [intOf]; omega
    · have hk' : k = l.length := by omega
      have hd0 : D.wts ((l.map GRow.toD).drop k) = 0 := by rw [hk', List.drop_eq_nil_of_le (by simp)]; rfl
      have he' := Lib.hid he
      have hd' := Lib.hid hd0
      have hk'' := Lib.hid hk'
      clear he hd0 hk'
      go_wp2_with fail
      go_ret
      have := he'.out
      have := hd'.out
      refine ⟨_, rfl, ?_, by omega, by omega, hb⟩
      unfold SzRel
      omega

theorem GRow.szSaid (x : GRow) : SzSaid Tryd.prog 77 x.toD := GRow.szSaid_of x (IntS_szSaid _) (OriginS_szSaid _)
theorem RowS_szSaid (l : List GRow) : SzsSaid Tryd.prog 44 (l.map GRow.toD) := RowS_szSaid_of l fun x _ => x.szSaid

theorem GVal.szSaid_of (x : GVal) (hE0 : SzsSaid Tryd.prog 42 (x.list.map GVal.toD)) (hE1 : SzsSaid Tryd.prog 43 (x.cols.map ls)) (hE2 : SzsSaid Tryd.prog 44 (x.rows.map GRow.toD)) : SzSaid Tryd.prog 18 x.toD := by
  intro w fp cs left hR hwf h0 h1
  rw [GVal.wt_eq]
  rw [GVal.toD_eq] at hwf
  obtain ⟨_, _, _, hw3, hw4, hw5, hw6, _⟩ := hwf
  obtain ⟨v0, v1, v2, f0, f1, f2, rfl, rfl, hS0, hS1, hS2⟩ := GVal.opened.1 hR
  obtain ⟨A0, c0, rfl, hq0a, hq0b⟩ := hS0.formT
  obtain ⟨A1, c1, rfl, hq1a, hq1b⟩ := hS1.formT
  obtain ⟨A2, c2, rfl, hq2a, hq2b⟩ := hS2.formT
  clear hq0a hq0b
  clear hq1a hq1b
  clear hq2a hq2b
  replace hw3 : x.text.size ≤ 9223372036854775807 := hw3
  clear hR
  have H0 : SzRel left 0 left := Or.inr ⟨h0, (Int.sub_zero _).symm⟩
  go_enter Tryd.func18, Tryd.ntmps18
  go_wp2_with fail
  · go_ret
    exact ⟨_, rfl, ((((H0.step (by omega) (SzRel.out (by omega))).stop (by omega) _).stop (by omega) _).stop (by omega) _), by omega, by omega, (Below.refl _ _).alloc (Nat.le_refl _) _⟩
  refine (hE0 _ _ _ _ (hS0.below ((Below.refl _ _).alloc (Nat.le_refl _) _)) hw4 (by omega) (by omega)).mono ?_
  rintro e w1 ⟨r1, rfl, hr1, hra1, hrb1, hb1⟩
  have hz1 : w.heap.size + 1 ≤ w1.heap.size := by simpa using hb1.size
  obtain ⟨hcc1, hcf1⟩ := bcell hb1
  have G1 : Below w.heap.size w w1 := ((Below.refl _ _).alloc (Nat.le_refl _) _).trans (hb1.mono (by simp))
  have H2 := (H0.step (by omega) (SzRel.sub (k := x.text.size) (by omega))).step (by omega) hr1
  go_wp2_with fail
  · go_ret
    exact ⟨_, rfl, ((H2).stop (by omega) _).stop (by omega) _, by omega, by omega, G1⟩
  refine (hE1 _ _ _ _ (hS1.below (G1)) hw5 (by omega) (by omega)).mono ?_
  rintro e w2 ⟨r2, rfl, hr2, hra2, hrb2, hb2⟩
  have hz2 : w.heap.size + 1 ≤ w2.heap.size := Nat.le_trans hz1 hb2.size
  have hcc2 : ∀ o, w2.cell? ⟨w.heap.size, o, none⟩ = w1.cell? ⟨w.heap.size, o, none⟩ := fun o => hb2.cell (p := ⟨w.heap.size, o, none⟩) hz1
  have G2 : Below w.heap.size w w2 := (G1).trans (hb2.mono (by omega))
  have H3 := H2.step (by omega) hr2
  go_wp2_with fail
  · go_ret
    exact ⟨_, rfl, (H3).stop (by omega) _, by omega, by omega, G2⟩
  refine (hE2 _ _ _ _ (hS2.below (G2)) hw6 (by omega) (by omega)).mono ?_
  rintro e w3 ⟨r3, rfl, hr3, hra3, hrb3, hb3⟩
  have hz3 : w.heap.size + 1 ≤ w3.heap.size := Nat.le_trans hz2 hb3.size
  have hcc3 : ∀ o, w3.cell? ⟨w.heap.size, o, none⟩ = w2.cell? ⟨w.heap.size, o, none⟩ := fun o => hb3.cell (p := ⟨w.heap.size, o, none⟩) hz2
  have G3 : Below w.heap.size w w3 := (G2).trans (hb3.mono (by omega))
  have H4 := H3.step (by omega) hr3
  go_wp2_with fail
  · go_ret
    exact ⟨_, rfl, H4.stop (by omega) 0, by omega, by omega, G3⟩
  go_ret
  exact ⟨_, rfl, H4, by omega, by omega, G3⟩

theorem ValueS_szSaid_of (l : List GVal) (hE : ∀ x ∈ l, SzSaid Tryd.prog 18 x.toD) : SzsSaid Tryd.prog 42 (l.map GVal.toD) := by
  intro w fp v left hS hwf h0 h1
  obtain ⟨A, c, rfl, hl, hc⟩ := hS.formT
  rw [List.length_map]
  have hm : l.length ≤ 9223372036854775807 := by unfold maxLen at hc; omega
  clear hc hl
  go_enter Tryd.func42, Tryd.ntmps42
  go_wp2_with fail
  · go_ret
    exact ⟨_, rfl, (SzRel.out (k := l.length) (by omega)).stop (by omega) _, by omega, by omega, Below.refl _ _⟩
  go_loopw [1, 5] (fun lv iv wr => ∃ (k : Nat) (m : Int), k ≤ l.length ∧ 0 ≤ m ∧ m ≤ left ∧ m + D.wts (l.map GVal.toD) = left - l.length + D.wts ((l.map GVal.toD).drop k) ∧ lv = .int .i64 m ∧ iv = .int .i64 k ∧ Below w.heap.size w wr) (fun _ iv _ => l.length - (intOf iv).toNat)
  case atStart => exact ⟨0, left - l.length, by omega, by omega, by omega, rfl, rfl, rfl, Below.refl _ _⟩
  case round =>
    obtain ⟨k, m, hk, hm0, hm1, he, rfl, rfl, hb⟩ := hrel
    by_cases hlt : k < l.length
    · have hd : (l.map GVal.toD)[k]? = some (GVal.toD l[k]) := by rw [List.getElem?_map, List.getElem?_eq_getElem hlt]; rfl
      obtain ⟨b, o, fi, ci, rfl, hbb, hbf, hri, hfi, hat⟩ := hS.elem GVal.szs hd
      have hwk := D.wfs_get hwf (List.mem_of_getElem? hd)
      have hst := D.wts_drop (l.map GVal.toD) k (by simpa using hlt)
      rw [List.getElem_map] at hst
      have hri' := hri
      obtain ⟨v0, v1, v2, g0, g1, g2, rfl, rfl, hT0, hT1, hT2⟩ := GVal.opened.1 hri
      obtain ⟨A0, c0, rfl, hq0a, hq0b⟩ := hT0.formT
      obtain ⟨A1, c1, rfl, hq1a, hq1b⟩ := hT1.formT
      obtain ⟨A2, c2, rfl, hq2a, hq2b⟩ := hT2.formT
      clear hq0a hq0b hT0
      clear hq1a hq1b hT1
      clear hq2a hq2b hT2
      have q0 := (hb.cell (p := ⟨b, o + k * 7, none⟩) hbb).trans (hat.head)
      have q1 := (hb.cell (p := ⟨b, o + k * 7 + 1, none⟩) hbb).trans (hat.nth 1 rfl)
      have q2 := (hb.cell (p := ⟨b, o + k * 7 + 2, none⟩) hbb).trans (hat.nth 2 rfl)
      have q3 := (hb.cell (p := ⟨b, o + k * 7 + 3, none⟩) hbb).trans (hat.nth 3 rfl)
      have q4 := (hb.cell (p := ⟨b, o + k * 7 + 4, none⟩) hbb).trans (hat.nth 4 rfl)
      have q5 := (hb.cell (p := ⟨b, o + k * 7 + 5, none⟩) hbb).trans (hat.nth 5 rfl)
      have q6 := (hb.cell (p := ⟨b, o + k * 7 + 6, none⟩) hbb).trans (hat.nth 6 rfl)
      have hst' := Lib.hid hst
      have he' := Lib.hid he
      clear hat hst he hd
      go_wp2_with fail
      refine (hE _ (List.getElem_mem hlt) _ _ _ _ (hri'.same (fun x hx => hb.block x (hS.lt x (hfi x hx))) hb.size) hwk (by omega) (by omega)).mono ?_
      rintro e w1 ⟨r, rfl, hr, hra, hrb, hb1⟩
      have G1 : Below w.heap.size w w1 := hb.trans (hb1.mono hb.size)
      go_wp2_with fail
      · go_ret
        have := he'.out
        have := hst'.out
        refine ⟨_, rfl, ?_, by omega, by omega, G1⟩
        unfold SzRel at *
        omega
      · go_roundw
        case rel =>
          have := he'.out
          have := hst'.out
          have := hr.le (by omega)
          exact ⟨k + 1, r, by omega, by omega, by omega, by omega, rfl, by go_num, G1⟩
        case measure => simp [intOf]; omega
    · have hk' : k = l.length := by omega
      have hd0 : D.wts ((l.map GVal.toD).drop k) = 0 := by rw [hk', List.drop_eq_nil_of_le (by simp)]; rfl
      have he' := Lib.hid he
      have hd' := Lib.hid hd0
      have hk'' := Lib.hid hk'
      clear he hd0 hk'
      go_wp2_with fail
      go_ret
      have := he'.out
      have := hd'.out
      refine ⟨_, rfl, ?_, by omega, by omega, hb⟩
      unfold SzRel
      omega

theorem GVal.szSaid (x : GVal) : SzSaid Tryd.prog 18 x.toD := GVal.szSaid_of x (ValueS_szSaid_of _ fun y hy => GVal.szSaid y) (StringS_szSaid _) (RowS_szSaid _)
termination_by SizeOf.sizeOf x
decreasing_by exact GVal.lt_of_mem hy
theorem ValueS_szSaid (l : List GVal) : SzsSaid Tryd.prog 42 (l.map GVal.toD) := ValueS_szSaid_of l fun x _ => x.szSaid

theorem GCell.szSaid_of (x : GCell) : SzSaid Tryd.prog 9 x.toD := by
  intro w fp cs left hR hwf h0 h1
  rw [GCell.wt_eq]
  rw [GCell.toD_eq] at hwf
  obtain ⟨_, _, _, hw3, hw4, _, _⟩ := hwf
  have hq := GCell.opened.1 hR
  obtain ⟨rfl, rfl⟩ := hq
  replace hw3 : x.name.size ≤ 9223372036854775807 := hw3
  replace hw4 : x.code.size ≤ 9223372036854775807 := hw4
  clear hR
  have H0 : SzRel left 0 left := Or.inr ⟨h0, (Int.sub_zero _).symm⟩
  go_enter Tryd.func9, Tryd.ntmps9
  go_wp2_with fail
  · go_ret
    exact ⟨_, rfl, ((H0.step (by omega) (SzRel.out (by omega))).stop (by omega) _), by omega, by omega, (Below.refl _ _).alloc (Nat.le_refl _) _⟩
  · go_ret
    exact ⟨_, rfl, ((H0.step (by omega) (SzRel.sub (k := x.name.size) (by omega))).step (by omega) (SzRel.out (by omega))), by omega, by omega, (Below.refl _ _).alloc (Nat.le_refl _) _⟩
  go_ret
  exact ⟨_, rfl, ((H0.step (by omega) (SzRel.sub (k := x.name.size) (by omega))).step (by omega) (SzRel.sub (k := x.code.size) (by omega))), by omega, by omega, (Below.refl _ _).alloc (Nat.le_refl _) _⟩

theorem CellS_szSaid_of (l : List GCell) (hE : ∀ x ∈ l, SzSaid Tryd.prog 9 x.toD) : SzsSaid Tryd.prog 37 (l.map GCell.toD) := by
  intro w fp v left hS hwf h0 h1
  obtain ⟨A, c, rfl, hl, hc⟩ := hS.formT
  rw [List.length_map]
  have hm : l.length ≤ 9223372036854775807 := by unfold maxLen at hc; omega
  clear hc hl
  go_enter Tryd.func37, Tryd.ntmps37
  go_wp2_with fail
  · go_ret
    exact ⟨_, rfl, (SzRel.out (k := l.length) (by omega)).stop (by omega) _, by omega, by omega, Below.refl _ _⟩
  go_loopw [1, 5] (fun lv iv wr => ∃ (k : Nat) (m : Int), k ≤ l.length ∧ 0 ≤ m ∧ m ≤ left ∧ m + D.wts (l.map GCell.toD) = left - l.length + D.wts ((l.map GCell.toD).drop k) ∧ lv = .int .i64 m ∧ iv = .int .i64 k ∧ Below w.heap.size w wr) (fun _ iv _ => l.length - (intOf iv).toNat)
  case atStart => exact ⟨0, left - l.length, by omega, by omega, by omega, rfl, rfl, rfl, Below.refl _ _⟩
  case round =>
    obtain ⟨k, m, hk, hm0, hm1, he, rfl, rfl, hb⟩ := hrel
    by_cases hlt : k < l.length
    · have hd : (l.map GCell.toD)[k]? = some (GCell.toD l[k]) := by rw [List.getElem?_map, List.getElem?_eq_getElem hlt]; rfl
      obtain ⟨b, o, fi, ci, rfl, hbb, hbf, hri, hfi, hat⟩ := hS.elem GCell.szs hd
      have hwk := D.wfs_get hwf (List.mem_of_getElem? hd)
      have hst := D.wts_drop (l.map GCell.toD) k (by simpa using hlt)
      rw [List.getElem_map] at hst
      have hri' := hri
      obtain ⟨rfl, rfl⟩ := GCell.opened.1 hri
      have q0 := (hb.cell (p := ⟨b, o + k * 6, none⟩) hbb).trans (hat.head)
      have q1 := (hb.cell (p := ⟨b, o + k * 6 + 1, none⟩) hbb).trans (hat.nth 1 rfl)
      have q2 := (hb.cell (p := ⟨b, o + k * 6 + 2, none⟩) hbb).trans (hat.nth 2 rfl)
      have q3 := (hb.cell (p := ⟨b, o + k * 6 + 3, none⟩) hbb).trans (hat.nth 3 rfl)
      have q4 := (hb.cell (p := ⟨b, o + k * 6 + 4, none⟩) hbb).trans (hat.nth 4 rfl)
      have q5 := (hb.cell (p := ⟨b, o + k * 6 + 5, none⟩) hbb).trans (hat.nth 5 rfl)
      have hst' := Lib.hid hst
      have he' := Lib.hid he
      clear hat hst he hd
      go_wp2_with fail
      refine (hE _ (List.getElem_mem hlt) _ _ _ _ (hri'.same (fun x hx => hb.block x (hS.lt x (hfi x hx))) hb.size) hwk (by omega) (by omega)).mono ?_
      rintro e w1 ⟨r, rfl, hr, hra, hrb, hb1⟩
      have G1 : Below w.heap.size w w1 := hb.trans (hb1.mono hb.size)
      go_wp2_with fail
      · go_ret
        have := he'.out
        have := hst'.out
        refine ⟨_, rfl, ?_, by omega, by omega, G1⟩
        unfold SzRel at *
        omega
      · go_roundw
        case rel =>
          have := he'.out
          have := hst'.out
          have := hr.le (by omega)
          exact ⟨k + 1, r, by omega, by omega, by omega, by omega, rfl, by go_num, G1⟩
        case measure => simp [intOf]; omega
    · have hk' : k = l.length := by omega
      have hd0 : D.wts ((l.map GCell.toD).drop k) = 0 := by rw [hk', List.drop_eq_nil_of_le (by simp)]; rfl
      have he' := Lib.hid he
      have hd' := Lib.hid hd0
      have hk'' := Lib.hid hk'
      clear he hd0 hk'
      go_wp2_with fail
      go_ret
      have := he'.out
      have := hd'.out
      refine ⟨_, rfl, ?_, by omega, by omega, hb⟩
      unfold SzRel
      omega

theorem GCell.szSaid (x : GCell) : SzSaid Tryd.prog 9 x.toD := GCell.szSaid_of x 
theorem CellS_szSaid (l : List GCell) : SzsSaid Tryd.prog 37 (l.map GCell.toD) := CellS_szSaid_of l fun x _ => x.szSaid

theorem GNb.szSaid_of (x : GNb) (hE0 : SzsSaid Tryd.prog 37 (x.cells.map GCell.toD)) : SzSaid Tryd.prog 13 x.toD := by
  intro w fp cs left hR hwf h0 h1
  rw [GNb.wt_eq]
  rw [GNb.toD_eq] at hwf
  obtain ⟨hw0, _⟩ := hwf
  obtain ⟨v0, f0, rfl, rfl, hS0⟩ := GNb.opened.1 hR
  obtain ⟨A0, c0, rfl, hq0a, hq0b⟩ := hS0.formT
  clear hq0a hq0b
  clear hR
  have H0 : SzRel left 0 left := Or.inr ⟨h0, (Int.sub_zero _).symm⟩
  go_enter Tryd.func13, Tryd.ntmps13
  go_wp2_with fail
  refine (hE0 _ _ _ _ (hS0.below ((Below.refl _ _).alloc (Nat.le_refl _) _)) hw0 (by omega) (by omega)).mono ?_
  rintro e w1 ⟨r1, rfl, hr1, hra1, hrb1, hb1⟩
  have hz1 : w.heap.size + 1 ≤ w1.heap.size := by simpa using hb1.size
  obtain ⟨hcc1, hcf1⟩ := bcell hb1
  have G1 : Below w.heap.size w w1 := ((Below.refl _ _).alloc (Nat.le_refl _) _).trans (hb1.mono (by simp))
  have H1 := H0.step (by omega) hr1
  go_wp2_with fail
  · go_ret
    exact ⟨_, rfl, H1.stop (by omega) 0, by omega, by omega, G1⟩
  go_ret
  exact ⟨_, rfl, H1, by omega, by omega, G1⟩

theorem GNb.szSaid (x : GNb) : SzSaid Tryd.prog 13 x.toD := GNb.szSaid_of x (CellS_szSaid _)
end Go.Proofs.YtdjcflnemnknaaaDoor

namespace Go.Proofs.YtdjcflnemnknaaaDoor
open Go.RowKit
set_option linter.unusedSimpArgs false
set_option linter.unusedVariables false

theorem info_toInt : (Tryd.prog.info? 3).map (fun i => (i.zero, i.size, i.bytes)) = some (some (.int .i64 0), 1, 8) := by kernel_rfl
set_option maxHeartbeats 1000000 in
theorem IntS_toSaid_of (l : List Int) : TosSaid Tryd.prog 106 (l.map li) := by
  intro w fp v hS hwt
  obtain ⟨A, c, rfl, hl, hc⟩ := hS.formT
  rw [List.length_map] at hwt
  obtain ⟨i0, hi0, hz0, hz1, hz2⟩ := info_parts info_toInt
  have hmk : ∀ W : World, (Instr.makeSlice 73 (.int .i64 (l.length : Int)) (.int .i64 (l.length : Int))).run Tryd.prog W = .ok (.slice (some ⟨W.heap.size, 0, none⟩) l.length l.length) (W.alloc (.cells (madeCells (Value.cells (.int .i64 0)) (l.length * 1)) 3)) := fun W => by
    have h := run_make (P := Tryd.prog) W 73 3 i0 _ Tryd.underlying73 hi0 hz0 .i64 .i64 (l.length : Int) (l.length : Int) (by omega) (Int.le_refl _) (by rw [hz2]; omega) (by omega)
    rw [hz1] at h
    simpa using h
  clear hl hc hi0 hz0 hz1 hz2
  go_enter Tryd.func106, Tryd.ntmps106
  go_wp2_with fail
  go_loopw [4] (fun iv wr => ∃ (k : Nat) (xs : List Value) (fs : List Nat), k ≤ l.length ∧ iv = .int .i64 k ∧ Row wr w.heap.size 3 xs ∧ xs.length = l.length * 1 ∧ Rs wr ((l.map li).take k) fs (xs.take (k * 1)) ∧ Free wr (w.heap.size + 1) fs ∧ Below w.heap.size w wr) (fun iv _ => l.length - (intOf iv).toNat)
  case atStart =>
    refine ⟨0, _, [], by omega, rfl, Row.new _ _ _, by simp [madeCells], by simp [Rs], Free.nil, (Below.refl _ _).alloc (Nat.le_refl _) _⟩
  case round =>
    obtain ⟨k, xs, fs, hk, rfl, hrow, hxl, hrs, hfr, hb⟩ := hrel
    by_cases hlt : k < l.length
    · have hd : (l.map li)[k]? = some (li l[k]) := by rw [List.getElem?_map, List.getElem?_eq_getElem hlt]; rfl
      obtain ⟨b, o, fi, ci, rfl, hbb, hbf, hri, hfi, hat⟩ := hS.elem li_szs hd
      have hri' := hri
      have hxk := Lib.hid (show k * 1 + 1 ≤ xs.length by rw [hxl]; omega)
      have hxl' := Lib.hid hxl
      have hlw := hrow.lt
      obtain ⟨rfl, rfl⟩ := hri
      have q0 : wr.cell? ⟨b, o + k, none⟩ = some (.int .i64 l[k]) := (hb.cell (p := ⟨b, o + k, none⟩) hbb).trans (by simpa using hat.head)
      clear hat hd hxl
      have hrow1 := hrow
      have G1 := hb
      have k0 := hrow1.at_ (i := k) (by have := hxk.out; omega)
      have hn1 := hrow1.frozen
      go_wp2_with fail
      go_roundw
      case rel =>
        have hxk := hxk.out
        have hxl := hxl'.out
        clear k0 hn1
        have hne : w.heap.size ∉ fs := fun h => by have := (hfr.2 _ h).1; omega
        refine ⟨k + 1, xs.set k (.int .i64 l[k]), fs, by omega, by go_num, hrow1.set k (.int .i64 l[k]), by rw [List.length_set]; exact hxl, ?_, hfr.setCell hne _, G1.setCell (Nat.le_refl _) _⟩
        have e1 : (xs.set k (.int .i64 l[k])).take (k + 1) = xs.take k ++ [.int .i64 l[k]] := sets_take [.int .i64 l[k]] xs k (by simp only [List.length_singleton]; omega)
        rw [Nat.mul_one] at hrs ⊢
        rw [e1, List.take_succ_eq_append_getElem (by simpa using hlt), List.getElem_map]
        have hr := hrs.setCell (p := ⟨w.heap.size, k, none⟩) hne (.int .i64 l[k])
        have := Rs.append (Rs.one (show R (wr.setCell ⟨w.heap.size, k, none⟩ (.int .i64 l[k])) (li l[k]) [] [.int .i64 l[k]] from ⟨rfl, rfl⟩)) hr
        simpa using this
      case measure => simp [intOf]; omega
    · have hk' := Lib.hid (show k = l.length by omega)
      have hxl' := Lib.hid hxl
      clear hxl
      go_wp2_with fail
      go_ret
      have hxl := hxl'.out
      have hk := hk'.out
      subst hk
      rw [List.take_of_length_le (by simp), List.take_of_length_le (by omega)] at hrs
      exact ⟨_, _, rfl, Sl.of_row hrow hrs (by simp) (by unfold maxLen; omega), Free.cons_row hrow (Nat.le_refl _) hfr, hb⟩

theorem IntS_toSaid (l : List Int) : TosSaid Tryd.prog 106 (l.map li) := IntS_toSaid_of l

theorem info_toString : (Tryd.prog.info? 9).map (fun i => (i.zero, i.size, i.bytes)) = some (some (.string ⟨#[]⟩), 1, 16) := by kernel_rfl
set_option maxHeartbeats 1000000 in
theorem StringS_toSaid_of (l : List ByteArray) : TosSaid Tryd.prog 47 (l.map ls) := by
  intro w fp v hS hwt
  obtain ⟨A, c, rfl, hl, hc⟩ := hS.formT
  rw [List.length_map] at hwt
  obtain ⟨i0, hi0, hz0, hz1, hz2⟩ := info_parts info_toString
  have hmk : ∀ W : World, (Instr.makeSlice 41 (.int .i64 (l.length : Int)) (.int .i64 (l.length : Int))).run Tryd.prog W = .ok (.slice (some ⟨W.heap.size, 0, none⟩) l.length l.length) (W.alloc (.cells (madeCells (Value.cells (.string ⟨#[]⟩)) (l.length * 1)) 9)) := fun W => by
    have h := run_make (P := Tryd.prog) W 41 9 i0 _ Tryd.underlying41 hi0 hz0 .i64 .i64 (l.length : Int) (l.length : Int) (by omega) (Int.le_refl _) (by rw [hz2]; omega) (by omega)
    rw [hz1] at h
    simpa using h
  clear hl hc hi0 hz0 hz1 hz2
  go_enter Tryd.func47, Tryd.ntmps47
  go_wp2_with fail
  go_loopw [4] (fun iv wr => ∃ (k : Nat) (xs : List Value) (fs : List Nat), k ≤ l.length ∧ iv = .int .i64 k ∧ Row wr w.heap.size 9 xs ∧ xs.length = l.length * 1 ∧ Rs wr ((l.map ls).take k) fs (xs.take (k * 1)) ∧ Free wr (w.heap.size + 1) fs ∧ Below w.heap.size w wr) (fun iv _ => l.length - (intOf iv).toNat)
  case atStart =>
    refine ⟨0, _, [], by omega, rfl, Row.new _ _ _, by simp [madeCells], by simp [Rs], Free.nil, (Below.refl _ _).alloc (Nat.le_refl _) _⟩
  case round =>
    obtain ⟨k, xs, fs, hk, rfl, hrow, hxl, hrs, hfr, hb⟩ := hrel
    by_cases hlt : k < l.length
    · have hd : (l.map ls)[k]? = some (ls l[k]) := by rw [List.getElem?_map, List.getElem?_eq_getElem hlt]; rfl
      obtain ⟨b, o, fi, ci, rfl, hbb, hbf, hri, hfi, hat⟩ := hS.elem ls_szs hd
      have hri' := hri
      have hxk := Lib.hid (show k * 1 + 1 ≤ xs.length by rw [hxl]; omega)
      have hxl' := Lib.hid hxl
      have hlw := hrow.lt
      obtain ⟨rfl, rfl⟩ := hri
      have q0 : wr.cell? ⟨b, o + k, none⟩ = some (.string l[k]) := (hb.cell (p := ⟨b, o + k, none⟩) hbb).trans (by simpa using hat.head)
      clear hat hd hxl
      have hrow1 := hrow
      have G1 := hb
      have k0 := hrow1.at_ (i := k) (by have := hxk.out; omega)
      have hn1 := hrow1.frozen
      go_wp2_with fail
      go_roundw
      case rel =>
        have hxk := hxk.out
        have hxl := hxl'.out
        clear k0 hn1
        have hne : w.heap.size ∉ fs := fun h => by have := (hfr.2 _ h).1; omega
        refine ⟨k + 1, xs.set k (.string l[k]), fs, by omega, by go_num, hrow1.set k (.string l[k]), by rw [List.length_set]; exact hxl, ?_, hfr.setCell hne _, G1.setCell (Nat.le_refl _) _⟩
        have e1 : (xs.set k (.string l[k])).take (k + 1) = xs.take k ++ [.string l[k]] := sets_take [.string l[k]] xs k (by simp only [List.length_singleton]; omega)
        rw [Nat.mul_one] at hrs ⊢
        rw [e1, List.take_succ_eq_append_getElem (by simpa using hlt), List.getElem_map]
        have hr := hrs.setCell (p := ⟨w.heap.size, k, none⟩) hne (.string l[k])
        have := Rs.append (Rs.one (show R (wr.setCell ⟨w.heap.size, k, none⟩ (.string l[k])) (ls l[k]) [] [.string l[k]] from ⟨rfl, rfl⟩)) hr
        simpa using this
      case measure => simp [intOf]; omega
    · have hk' := Lib.hid (show k = l.length by omega)
      have hxl' := Lib.hid hxl
      clear hxl
      go_wp2_with fail
      go_ret
      have hxl := hxl'.out
      have hk := hk'.out
      subst hk
      rw [List.take_of_length_le (by simp), List.take_of_length_le (by omega)] at hrs
      exact ⟨_, _, rfl, Sl.of_row hrow hrs (by simp) (by unfold maxLen; omega), Free.cons_row hrow (Nat.le_refl _) hfr, hb⟩

theorem StringS_toSaid (l : List ByteArray) : TosSaid Tryd.prog 47 (l.map ls) := StringS_toSaid_of l

set_option maxHeartbeats 1000000 in
theorem GOrigin.toSaid_of (x : GOrigin) : ToSaid Tryd.prog 125 x.toD := by
  intro w fp cs hR hwt
  rw [GOrigin.wt_eq] at hwt
  obtain ⟨rfl, rfl⟩ := GOrigin.opened.1 hR
  clear hR
  go_enter Tryd.func125, Tryd.ntmps125
  go_wp2_with fail
  refine bodyPost_ret (v := .agg #[.int .i64 x.cell, .int .i64 x.row]) (by simp [results, Tryd.results125, go_sem]) rfl ⟨[], _, rfl, GOrigin.opened.2 ⟨rfl, rfl⟩, Free.nil, ?_⟩
  repeat (first | exact Below.refl _ _ | refine Below.setCell ?_ (by simp; try omega) _ | refine Below.alloc ?_ (by simp; try omega) _)

theorem info_toOrigin : (Tryd.prog.info? 114).map (fun i => (i.zero, i.size, i.bytes)) = some (some (.agg #[.int .i64 0, .int .i64 0]), 2, 16) := by kernel_rfl
set_option maxHeartbeats 1000000 in
theorem OriginS_toSaid_of (l : List GOrigin) (hE : ∀ x ∈ l, ToSaid Tryd.prog 125 x.toD) : TosSaid Tryd.prog 107 (l.map GOrigin.toD) := by
  intro w fp v hS hwt
  obtain ⟨A, c, rfl, hl, hc⟩ := hS.formT
  rw [List.length_map] at hwt
  obtain ⟨i0, hi0, hz0, hz1, hz2⟩ := info_parts info_toOrigin
  have hmk : ∀ W : World, (Instr.makeSlice 74 (.int .i64 (l.length : Int)) (.int .i64 (l.length : Int))).run Tryd.prog W = .ok (.slice (some ⟨W.heap.size, 0, none⟩) l.length l.length) (W.alloc (.cells (madeCells (Value.cells (.agg #[.int .i64 0, .int .i64 0])) (l.length * 2)) 114)) := fun W => by
    have h := run_make (P := Tryd.prog) W 74 114 i0 _ Tryd.underlying74 hi0 hz0 .i64 .i64 (l.length : Int) (l.length : Int) (by omega) (Int.le_refl _) (by rw [hz2]; omega) (by omega)
    rw [hz1] at h
    simpa using h
  clear hl hc hi0 hz0 hz1 hz2
  go_enter Tryd.func107, Tryd.ntmps107
  go_wp2_with fail
  go_loopw [4] (fun iv wr => ∃ (k : Nat) (xs : List Value) (fs : List Nat), k ≤ l.length ∧ iv = .int .i64 k ∧ Row wr w.heap.size 114 xs ∧ xs.length = l.length * 2 ∧ Rs wr ((l.map GOrigin.toD).take k) fs (xs.take (k * 2)) ∧ Free wr (w.heap.size + 1) fs ∧ Below w.heap.size w wr) (fun iv _ => l.length - (intOf iv).toNat)
  case atStart =>
    refine ⟨0, _, [], by omega, rfl, Row.new _ _ _, by simp [madeCells], by simp [Rs], Free.nil, (Below.refl _ _).alloc (Nat.le_refl _) _⟩
  case round =>
    obtain ⟨k, xs, fs, hk, rfl, hrow, hxl, hrs, hfr, hb⟩ := hrel
    by_cases hlt : k < l.length
    · have hd : (l.map GOrigin.toD)[k]? = some (GOrigin.toD l[k]) := by rw [List.getElem?_map, List.getElem?_eq_getElem hlt]; rfl
      obtain ⟨b, o, fi, ci, rfl, hbb, hbf, hri, hfi, hat⟩ := hS.elem GOrigin.szs hd
      have hri' := hri
      have hxk := Lib.hid (show k * 2 + 2 ≤ xs.length by rw [hxl]; omega)
      have hxl' := Lib.hid hxl
      have hlw := hrow.lt
      obtain ⟨rfl, rfl⟩ := GOrigin.opened.1 hri
      have q0 := (hb.cell (p := ⟨b, o + k * 2, none⟩) hbb).trans (hat.head)
      have q1 := (hb.cell (p := ⟨b, o + k * 2 + 1, none⟩) hbb).trans (hat.nth 1 rfl)
      clear hat hd hxl
      go_wp2_with fail
      refine (hE _ (List.getElem_mem hlt) _ _ _ (hri'.same (fun x hx => hb.block x (hS.lt x (hfi x hx))) hb.size) (by have := D.wts_mem (List.mem_map_of_mem (f := GOrigin.toD) (List.getElem_mem hlt)); omega)).mono ?_
      rintro e w1 ⟨fn, cs, rfl, hT, hF, hb1⟩
      have hTL := hT.lt
      have hT' := hT
      obtain ⟨rfl, rfl⟩ := GOrigin.opened.1 hT
      have hrow1 := hrow.below hb1
      have G1 : Below w.heap.size w w1 := hb.trans (hb1.mono hb.size)
      have k0 := hrow1.at_ (i := k * 2) (by have := hxk.out; omega)
      have k1 := hrow1.at_ (i := k * 2 + 1) (by have := hxk.out; omega)
      have hn1 := hrow1.frozen
      go_wp2_with fail
      go_roundw
      case rel =>
        have hxk := hxk.out
        have hxl := hxl'.out
        clear k0 k1 hn1
        have hne : w.heap.size ∉ fs := fun h => by have := (hfr.2 _ h).1; omega
        have hnn : w.heap.size ∉ ([] : List Nat) := fun h => by have := (hF.2 _ h).1; omega
        have hr := (hrs.below hb1).setCells hne (k * 2) [.int .i64 l[k].cell, .int .i64 l[k].row]
        have hr2 := hT'.setCells hnn (k * 2) [.int .i64 l[k].cell, .int .i64 l[k].row]
        refine ⟨k + 1, sets xs (k * 2) [.int .i64 l[k].cell, .int .i64 l[k].row], fs ++ ([] : List Nat), by omega, by go_num, hrow1.sets [.int .i64 l[k].cell, .int .i64 l[k].row] (k * 2), by rw [sets_length]; exact hxl, ?_, ?_, ?_⟩
        · have e1 : (sets xs (k * 2) [.int .i64 l[k].cell, .int .i64 l[k].row]).take (k * 2 + 2) = xs.take (k * 2) ++ [.int .i64 l[k].cell, .int .i64 l[k].row] := sets_take [.int .i64 l[k].cell, .int .i64 l[k].row] xs (k * 2) hxk
          rw [show (k + 1) * 2 = k * 2 + 2 by omega, e1, List.take_succ_eq_append_getElem (by simpa using hlt), List.getElem_map]
          exact Rs.append (Rs.one hr2) hr
        · exact Free.append (mid := wr.heap.size) ((hfr.below hrs.lt hb1).setCells hne (k * 2) [.int .i64 l[k].cell, .int .i64 l[k].row]) hrs.lt (hF.setCells hnn (k * 2) [.int .i64 l[k].cell, .int .i64 l[k].row]) (by omega)
        · exact setCells_below (Nat.le_refl _) [.int .i64 l[k].cell, .int .i64 l[k].row] G1 (k * 2)
      case measure => simp [intOf]; omega
    · have hk' := Lib.hid (show k = l.length by omega)
      have hxl' := Lib.hid hxl
      clear hxl
      go_wp2_with fail
      go_ret
      have hxl := hxl'.out
      have hk := hk'.out
      subst hk
      rw [List.take_of_length_le (by simp), List.take_of_length_le (by omega)] at hrs
      exact ⟨_, _, rfl, Sl.of_row hrow hrs (by simp) (by unfold maxLen; omega), Free.cons_row hrow (Nat.le_refl _) hfr, hb⟩

theorem GOrigin.toSaid (x : GOrigin) : ToSaid Tryd.prog 125 x.toD := GOrigin.toSaid_of x 
theorem OriginS_toSaid (l : List GOrigin) : TosSaid Tryd.prog 107 (l.map GOrigin.toD) := OriginS_toSaid_of l fun x _ => x.toSaid

set_option maxHeartbeats 1000000 in
theorem GRow.toSaid_of (x : GRow) (hE0 : TosSaid Tryd.prog 106 (x.cells.map li)) (hE1 : TosSaid Tryd.prog 107 (x.src.map GOrigin.toD)) : ToSaid Tryd.prog 82 x.toD := by
  intro w fp cs hR hwt
  rw [GRow.wt_eq] at hwt
  obtain ⟨v0, v1, f0, f1, rfl, rfl, hS0, hS1⟩ := GRow.opened.1 hR
  obtain ⟨A0, c0, rfl, hq0a, hq0b⟩ := hS0.formT
  obtain ⟨A1, c1, rfl, hq1a, hq1b⟩ := hS1.formT
  clear hq0a hq0b
  clear hq1a hq1b
  clear hR
  go_enter Tryd.func82, Tryd.ntmps82
  go_wp2_with fail
  have hP0 : ∀ wx : World, Below w.heap.size w wx → Calls Tryd.prog 106 _ wx (TosPost _ wx) := fun wx hwx => hE0 wx _ _ (hS0.below hwx) (by omega)
  refine (hP0 _ ?_).mono ?_
  · exact (((Below.refl _ _).alloc (by simp) _).alloc (by simp; try omega) _).alloc (by simp; try omega) _
  rintro e w1 ⟨g0, v, rfl, hT0, hF0, hb1⟩
  have hL0 := hT0.lt
  have hX0 := hF0.past (lo := w.heap.size + 1) (hi := w.heap.size + 3) (by simp)
  replace hF0 := hF0.mono (base' := w.heap.size) (by simp; omega)
  obtain ⟨B0, d0, rfl, hq0a, hq0b⟩ := hT0.formT
  clear hq0a hq0b
  obtain ⟨hr10, hr11, hr12, hz1, G1⟩ := rows3 hb1
  clear hb1
  have k10 := hr10.cell
  have k11 := hr11.cell
  have k12 := hr12.cell
  have n10 := hr10.frozen
  have n11 := hr11.frozen
  have n12 := hr12.frozen
  go_wp2_with fail
  have hP1 : ∀ wx : World, Below w.heap.size w wx → Calls Tryd.prog 107 _ wx (TosPost _ wx) := fun wx hwx => hE1 wx _ _ (hS1.below hwx) (by omega)
  refine (hP1 _ ?_).mono ?_
  · exact (G1.setCell (by simp; try omega) _)
  rintro e w2 ⟨g1, v, rfl, hT1, hF1, hb2⟩
  have hL1 := hT1.lt
  have hX1 := hF1.past (lo := w.heap.size + 1) (hi := w.heap.size + 3) (by simp; omega)
  replace hF1 := hF1.mono (base' := w1.heap.size) (by simp)
  obtain ⟨B1, d1, rfl, hq1a, hq1b⟩ := hT1.formT
  clear hq1a hq1b
  have hr20 := ((hr10.far (by simp; try omega) _)).below hb2
  have hr21 := ((hr11.far (by simp; try omega) _)).below hb2
  have hr22 := ((hr12.set _ _)).below hb2
  have hK2 : Kept (w.heap.size + 1) (w.heap.size + 3) w1 w2 := by
    refine Kept.below (b := _) ?_ hb2
    repeat (first | (with_reducible exact Kept.refl _ _ _) | ((with_reducible refine Kept.setCell ?_ ?_ ?_ _); rotate_left; (simp; try omega); (simp; try omega)))
  have hz2 : w.heap.size + 3 ≤ w2.heap.size := Nat.le_trans hz1 hK2.size
  have G2 : Below w.heap.size w w2 := Kept.toBelow G1 hK2 (by omega) (by omega)
  clear hb2
  have k20 := hr20.cell
  have k21 := hr21.cell
  have k22 := hr22.cell
  have n20 := hr20.frozen
  have n21 := hr21.frozen
  have n22 := hr22.frozen
  go_wp2_with fail
  have hend := (GRow.opened (w := w2) (x := x)).2 ⟨_, _, _, _, rfl, rfl, hT0.kept hK2 hX0, hT1⟩
  have hfree := (Free.append (mid := w1.heap.size) ((hF0.kept hL0 hK2 hX0).mono (base' := w.heap.size) (by omega)) hL0 hF1 (by omega))
  have hpast := (past_append hX0 hX1)
  refine bodyPost_ret (v := .agg #[.slice B0 x.cells.length d0, .slice B1 x.src.length d1]) (by simp [results, Tryd.results82, go_sem, k20, k21, k22]) rfl (ToPost.fin (lo := w.heap.size + 1) (hi := w.heap.size + 3) (b := w2) ?_ hend hfree hpast G2 (by omega))
  repeat (first | (with_reducible exact Kept.refl _ _ _) | ((with_reducible refine Kept.setCell ?_ ?_ ?_ _); rotate_left; (simp; try omega); (simp; try omega)))

theorem info_toRow : (Tryd.prog.info? 76).map (fun i => (i.zero, i.size, i.bytes)) = some (some (.agg #[.slice none 0 0, .slice none 0 0]), 2, 48) := by kernel_rfl
set_option maxHeartbeats 1000000 in
theorem RowS_toSaid_of (l : List GRow) (hE : ∀ x ∈ l, ToSaid Tryd.prog 82 x.toD) : TosSaid Tryd.prog 48 (l.map GRow.toD) := by
  intro w fp v hS hwt
  obtain ⟨A, c, rfl, hl, hc⟩ := hS.formT
  rw [List.length_map] at hwt
  obtain ⟨i0, hi0, hz0, hz1, hz2⟩ := info_parts info_toRow
  have hmk : ∀ W : World, (Instr.makeSlice 48 (.int .i64 (l.length : Int)) (.int .i64 (l.length : Int))).run Tryd.prog W = .ok (.slice (some ⟨W.heap.size, 0, none⟩) l.length l.length) (W.alloc (.cells (madeCells (Value.cells (.agg #[.slice none 0 0, .slice none 0 0])) (l.length * 2)) 76)) := fun W => by
    have h := run_make (P := Tryd.prog) W 48 76 i0 _ Tryd.underlying48 hi0 hz0 .i64 .i64 (l.length : Int) (l.length : Int) (by omega) (Int.le_refl _) (by rw [hz2]; omega) (by omega)
    rw [hz1] at h
    simpa using h
  clear hl hc hi0 hz0 hz1 hz2
  go_enter Tryd.func48, Tryd.ntmps48
  go_wp2_with fail
  go_loopw [4] (fun iv wr => ∃ (k : Nat) (xs : List Value) (fs : List Nat), k ≤ l.length ∧ iv = .int .i64 k ∧ Row wr w.heap.size 76 xs ∧ xs.length = l.length * 2 ∧ Rs wr ((l.map GRow.toD).take k) fs (xs.take (k * 2)) ∧ Free wr (w.heap.size + 1) fs ∧ Below w.heap.size w wr) (fun iv _ => l.length - (intOf iv).toNat)
  case atStart =>
    refine ⟨0, _, [], by omega, rfl, Row.new _ _ _, by simp [madeCells], by simp [Rs], Free.nil, (Below.refl _ _).alloc (Nat.le_refl _) _⟩
  case round =>
    obtain ⟨k, xs, fs, hk, rfl, hrow, hxl, hrs, hfr, hb⟩ := hrel
    by_cases hlt : k < l.length
    · have hd : (l.map GRow.toD)[k]? = some (GRow.toD l[k]) := by rw [List.getElem?_map, List.getElem?_eq_getElem hlt]; rfl
      obtain ⟨b, o, fi, ci, rfl, hbb, hbf, hri, hfi, hat⟩ := hS.elem GRow.szs hd
      have hri' := hri
      have hxk := Lib.hid (show k * 2 + 2 ≤ xs.length by rw [hxl]; omega)
      have hxl' := Lib.hid hxl
      have hlw := hrow.lt
      obtain ⟨v0, v1, g0, g1, rfl, rfl, hV0, hV1⟩ := GRow.opened.1 hri
      obtain ⟨A0, c0, rfl, hq0a, hq0b⟩ := hV0.formT
      obtain ⟨A1, c1, rfl, hq1a, hq1b⟩ := hV1.formT
      clear hq0a hq0b hV0
      clear hq1a hq1b hV1
      have q0 := (hb.cell (p := ⟨b, o + k * 2, none⟩) hbb).trans (hat.head)
      have q1 := (hb.cell (p := ⟨b, o + k * 2 + 1, none⟩) hbb).trans (hat.nth 1 rfl)
      clear hat hd hxl
      go_wp2_with fail
      refine (hE _ (List.getElem_mem hlt) _ _ _ (hri'.same (fun x hx => hb.block x (hS.lt x (hfi x hx))) hb.size) (by have := D.wts_mem (List.mem_map_of_mem (f := GRow.toD) (List.getElem_mem hlt)); omega)).mono ?_
      rintro e w1 ⟨fn, cs, rfl, hT, hF, hb1⟩
      have hTL := hT.lt
      have hT' := hT
      obtain ⟨u0, u1, t0, t1, rfl, rfl, hV0, hV1⟩ := GRow.opened.1 hT
      obtain ⟨B0, d0, rfl, hq0a, hq0b⟩ := hV0.formT
      obtain ⟨B1, d1, rfl, hq1a, hq1b⟩ := hV1.formT
      clear hq0a hq0b hV0
      clear hq1a hq1b hV1
      have hrow1 := hrow.below hb1
      have G1 : Below w.heap.size w w1 := hb.trans (hb1.mono hb.size)
      have k0 := hrow1.at_ (i := k * 2) (by have := hxk.out; omega)
      have k1 := hrow1.at_ (i := k * 2 + 1) (by have := hxk.out; omega)
      have hn1 := hrow1.frozen
      go_wp2_with fail
      go_roundw
      case rel =>
        have hxk := hxk.out
        have hxl := hxl'.out
        clear k0 k1 hn1
        have hne : w.heap.size ∉ fs := fun h => by have := (hfr.2 _ h).1; omega
        have hnn : w.heap.size ∉ (t0 ++ t1) := fun h => by have := (hF.2 _ h).1; omega
        have hr := (hrs.below hb1).setCells hne (k * 2) [.slice B0 l[k].cells.length d0, .slice B1 l[k].src.length d1]
        have hr2 := hT'.setCells hnn (k * 2) [.slice B0 l[k].cells.length d0, .slice B1 l[k].src.length d1]
        refine ⟨k + 1, sets xs (k * 2) [.slice B0 l[k].cells.length d0, .slice B1 l[k].src.length d1], fs ++ (t0 ++ t1), by omega, by go_num, hrow1.sets [.slice B0 l[k].cells.length d0, .slice B1 l[k].src.length d1] (k * 2), by rw [sets_length]; exact hxl, ?_, ?_, ?_⟩
        · have e1 : (sets xs (k * 2) [.slice B0 l[k].cells.length d0, .slice B1 l[k].src.length d1]).take (k * 2 + 2) = xs.take (k * 2) ++ [.slice B0 l[k].cells.length d0, .slice B1 l[k].src.length d1] := sets_take [.slice B0 l[k].cells.length d0, .slice B1 l[k].src.length d1] xs (k * 2) hxk
          rw [show (k + 1) * 2 = k * 2 + 2 by omega, e1, List.take_succ_eq_append_getElem (by simpa using hlt), List.getElem_map]
          exact Rs.append (Rs.one hr2) hr
        · exact Free.append (mid := wr.heap.size) ((hfr.below hrs.lt hb1).setCells hne (k * 2) [.slice B0 l[k].cells.length d0, .slice B1 l[k].src.length d1]) hrs.lt (hF.setCells hnn (k * 2) [.slice B0 l[k].cells.length d0, .slice B1 l[k].src.length d1]) (by omega)
        · exact setCells_below (Nat.le_refl _) [.slice B0 l[k].cells.length d0, .slice B1 l[k].src.length d1] G1 (k * 2)
      case measure => simp [intOf]; omega
    · have hk' := Lib.hid (show k = l.length by omega)
      have hxl' := Lib.hid hxl
      clear hxl
      go_wp2_with fail
      go_ret
      have hxl := hxl'.out
      have hk := hk'.out
      subst hk
      rw [List.take_of_length_le (by simp), List.take_of_length_le (by omega)] at hrs
      exact ⟨_, _, rfl, Sl.of_row hrow hrs (by simp) (by unfold maxLen; omega), Free.cons_row hrow (Nat.le_refl _) hfr, hb⟩

theorem GRow.toSaid (x : GRow) : ToSaid Tryd.prog 82 x.toD := GRow.toSaid_of x (IntS_toSaid _) (OriginS_toSaid _)
theorem RowS_toSaid (l : List GRow) : TosSaid Tryd.prog 48 (l.map GRow.toD) := RowS_toSaid_of l fun x _ => x.toSaid

set_option maxHeartbeats 1000000 in
theorem GVal.toSaid_of (x : GVal) (hE0 : TosSaid Tryd.prog 46 (x.list.map GVal.toD)) (hE1 : TosSaid Tryd.prog 47 (x.cols.map ls)) (hE2 : TosSaid Tryd.prog 48 (x.rows.map GRow.toD)) : ToSaid Tryd.prog 20 x.toD := by
  intro w fp cs hR hwt
  rw [GVal.wt_eq] at hwt
  obtain ⟨v0, v1, v2, f0, f1, f2, rfl, rfl, hS0, hS1, hS2⟩ := GVal.opened.1 hR
  obtain ⟨A0, c0, rfl, hq0a, hq0b⟩ := hS0.formT
  obtain ⟨A1, c1, rfl, hq1a, hq1b⟩ := hS1.formT
  obtain ⟨A2, c2, rfl, hq2a, hq2b⟩ := hS2.formT
  clear hq0a hq0b
  clear hq1a hq1b
  clear hq2a hq2b
  clear hR
  go_enter Tryd.func20, Tryd.ntmps20
  go_wp2_with fail
  have hP0 : ∀ wx : World, Below w.heap.size w wx → Calls Tryd.prog 46 _ wx (TosPost _ wx) := fun wx hwx => hE0 wx _ _ (hS0.below hwx) (by omega)
  refine (hP0 _ ?_).mono ?_
  · exact (((Below.refl _ _).alloc (by simp) _).alloc (by simp; try omega) _).alloc (by simp; try omega) _
  rintro e w1 ⟨g0, v, rfl, hT0, hF0, hb1⟩
  have hL0 := hT0.lt
  have hX0 := hF0.past (lo := w.heap.size + 1) (hi := w.heap.size + 3) (by simp)
  replace hF0 := hF0.mono (base' := w.heap.size) (by simp; omega)
  obtain ⟨B0, d0, rfl, hq0a, hq0b⟩ := hT0.formT
  clear hq0a hq0b
  obtain ⟨hr10, hr11, hr12, hz1, G1⟩ := rows3 hb1
  clear hb1
  have k10 := hr10.cell
  have k11 := hr11.cell
  have k12 := hr12.cell
  have n10 := hr10.frozen
  have n11 := hr11.frozen
  have n12 := hr12.frozen
  go_wp2_with fail
  have hP1 : ∀ wx : World, Below w.heap.size w wx → Calls Tryd.prog 47 _ wx (TosPost _ wx) := fun wx hwx => hE1 wx _ _ (hS1.below hwx) (by omega)
  refine (hP1 _ ?_).mono ?_
  · exact (G1.setCell (by simp; try omega) _)
  rintro e w2 ⟨g1, v, rfl, hT1, hF1, hb2⟩
  have hL1 := hT1.lt
  have hX1 := hF1.past (lo := w.heap.size + 1) (hi := w.heap.size + 3) (by simp; omega)
  replace hF1 := hF1.mono (base' := w1.heap.size) (by simp)
  obtain ⟨B1, d1, rfl, hq1a, hq1b⟩ := hT1.formT
  clear hq1a hq1b
  have hr20 := ((hr10.far (by simp; try omega) _)).below hb2
  have hr21 := ((hr11.far (by simp; try omega) _)).below hb2
  have hr22 := ((hr12.set _ _)).below hb2
  have hK2 : Kept (w.heap.size + 1) (w.heap.size + 3) w1 w2 := by
    refine Kept.below (b := _) ?_ hb2
    repeat (first | (with_reducible exact Kept.refl _ _ _) | ((with_reducible refine Kept.setCell ?_ ?_ ?_ _); rotate_left; (simp; try omega); (simp; try omega)))
  have hz2 : w.heap.size + 3 ≤ w2.heap.size := Nat.le_trans hz1 hK2.size
  have G2 : Below w.heap.size w w2 := Kept.toBelow G1 hK2 (by omega) (by omega)
  clear hb2
  have k20 := hr20.cell
  have k21 := hr21.cell
  have k22 := hr22.cell
  have n20 := hr20.frozen
  have n21 := hr21.frozen
  have n22 := hr22.frozen
  go_wp2_with fail
  have hP2 : ∀ wx : World, Below w.heap.size w wx → Calls Tryd.prog 48 _ wx (TosPost _ wx) := fun wx hwx => hE2 wx _ _ (hS2.below hwx) (by omega)
  refine (hP2 _ ?_).mono ?_
  · exact (G2.setCell (by simp; try omega) _)
  rintro e w3 ⟨g2, v, rfl, hT2, hF2, hb3⟩
  have hL2 := hT2.lt
  have hX2 := hF2.past (lo := w.heap.size + 1) (hi := w.heap.size + 3) (by simp; omega)
  replace hF2 := hF2.mono (base' := w2.heap.size) (by simp)
  obtain ⟨B2, d2, rfl, hq2a, hq2b⟩ := hT2.formT
  clear hq2a hq2b
  have hr30 := ((hr20.far (by simp; try omega) _)).below hb3
  have hr31 := ((hr21.far (by simp; try omega) _)).below hb3
  have hr32 := ((hr22.set _ _)).below hb3
  have hK3 : Kept (w.heap.size + 1) (w.heap.size + 3) w2 w3 := by
    refine Kept.below (b := _) ?_ hb3
    repeat (first | (with_reducible exact Kept.refl _ _ _) | ((with_reducible refine Kept.setCell ?_ ?_ ?_ _); rotate_left; (simp; try omega); (simp; try omega)))
  have hz3 : w.heap.size + 3 ≤ w3.heap.size := Nat.le_trans hz2 hK3.size
  have G3 : Below w.heap.size w w3 := Kept.toBelow G2 hK3 (by omega) (by omega)
  clear hb3
  have k30 := hr30.cell
  have k31 := hr31.cell
  have k32 := hr32.cell
  have n30 := hr30.frozen
  have n31 := hr31.frozen
  have n32 := hr32.frozen
  go_wp2_with fail
  have hend := (GVal.opened (w := w3) (x := x)).2 ⟨_, _, _, _, _, _, rfl, rfl, hT0.kept (hK2.trans hK3) hX0, hT1.kept hK3 hX1, hT2⟩
  have hfree := (Free.append (mid := w1.heap.size) ((hF0.kept hL0 (hK2.trans hK3) hX0).mono (base' := w.heap.size) (by omega)) hL0 (Free.append (mid := w2.heap.size) (hF1.kept hL1 hK3 hX1) hL1 hF2 (by have := hK2.size; omega)) (by omega))
  have hpast := (past_append hX0 (past_append hX1 hX2))
  refine bodyPost_ret (v := .agg #[.int .i64 x.kind, .int .i64 x.n, .int .i64 x.step, .string x.text, .slice B0 x.list.length d0, .slice B1 x.cols.length d1, .slice B2 x.rows.length d2]) (by simp [results, Tryd.results20, go_sem, k30, k31, k32]) rfl (ToPost.fin (lo := w.heap.size + 1) (hi := w.heap.size + 3) (b := w3) ?_ hend hfree hpast G3 (by omega))
  repeat (first | (with_reducible exact Kept.refl _ _ _) | ((with_reducible refine Kept.setCell ?_ ?_ ?_ _); rotate_left; (simp; try omega); (simp; try omega)))

theorem info_toValue : (Tryd.prog.info? 50).map (fun i => (i.zero, i.size, i.bytes)) = some (some (.agg #[.int .i64 0, .int .i64 0, .int .i64 0, .string ⟨#[]⟩, .slice none 0 0, .slice none 0 0, .slice none 0 0]), 7, 112) := by kernel_rfl
set_option maxHeartbeats 1000000 in
theorem ValueS_toSaid_of (l : List GVal) (hE : ∀ x ∈ l, ToSaid Tryd.prog 20 x.toD) : TosSaid Tryd.prog 46 (l.map GVal.toD) := by
  intro w fp v hS hwt
  obtain ⟨A, c, rfl, hl, hc⟩ := hS.formT
  rw [List.length_map] at hwt
  obtain ⟨i0, hi0, hz0, hz1, hz2⟩ := info_parts info_toValue
  have hmk : ∀ W : World, (Instr.makeSlice 47 (.int .i64 (l.length : Int)) (.int .i64 (l.length : Int))).run Tryd.prog W = .ok (.slice (some ⟨W.heap.size, 0, none⟩) l.length l.length) (W.alloc (.cells (madeCells (Value.cells (.agg #[.int .i64 0, .int .i64 0, .int .i64 0, .string ⟨#[]⟩, .slice none 0 0, .slice none 0 0, .slice none 0 0])) (l.length * 7)) 50)) := fun W => by
    have h := run_make (P := Tryd.prog) W 47 50 i0 _ Tryd.underlying47 hi0 hz0 .i64 .i64 (l.length : Int) (l.length : Int) (by omega) (Int.le_refl _) (by rw [hz2]; omega) (by omega)
    rw [hz1] at h
    simpa using h
  clear hl hc hi0 hz0 hz1 hz2
  go_enter Tryd.func46, Tryd.ntmps46
  go_wp2_with fail
  go_loopw [4] (fun iv wr => ∃ (k : Nat) (xs : List Value) (fs : List Nat), k ≤ l.length ∧ iv = .int .i64 k ∧ Row wr w.heap.size 50 xs ∧ xs.length = l.length * 7 ∧ Rs wr ((l.map GVal.toD).take k) fs (xs.take (k * 7)) ∧ Free wr (w.heap.size + 1) fs ∧ Below w.heap.size w wr) (fun iv _ => l.length - (intOf iv).toNat)
  case atStart =>
    refine ⟨0, _, [], by omega, rfl, Row.new _ _ _, by simp [madeCells], by simp [Rs], Free.nil, (Below.refl _ _).alloc (Nat.le_refl _) _⟩
  case round =>
    obtain ⟨k, xs, fs, hk, rfl, hrow, hxl, hrs, hfr, hb⟩ := hrel
    by_cases hlt : k < l.length
    · have hd : (l.map GVal.toD)[k]? = some (GVal.toD l[k]) := by rw [List.getElem?_map, List.getElem?_eq_getElem hlt]; rfl
      obtain ⟨b, o, fi, ci, rfl, hbb, hbf, hri, hfi, hat⟩ := hS.elem GVal.szs hd
      have hri' := hri
      have hxk := Lib.hid (show k * 7 + 7 ≤ xs.length by rw [hxl]; omega)
      have hxl' := Lib.hid hxl
      have hlw := hrow.lt
      obtain ⟨v0, v1, v2, g0, g1, g2, rfl, rfl, hV0, hV1, hV2⟩ := GVal.opened.1 hri
      obtain ⟨A0, c0, rfl, hq0a, hq0b⟩ := hV0.formT
      obtain ⟨A1, c1, rfl, hq1a, hq1b⟩ := hV1.formT
      obtain ⟨A2, c2, rfl, hq2a, hq2b⟩ := hV2.formT
      clear hq0a hq0b hV0
      clear hq1a hq1b hV1
      clear hq2a hq2b hV2
      have q0 := (hb.cell (p := ⟨b, o + k * 7, none⟩) hbb).trans (hat.head)
      have q1 := (hb.cell (p := ⟨b, o + k * 7 + 1, none⟩) hbb).trans (hat.nth 1 rfl)
      have q2 := (hb.cell (p := ⟨b, o + k * 7 + 2, none⟩) hbb).trans (hat.nth 2 rfl)
      have q3 := (hb.cell (p := ⟨b, o + k * 7 + 3, none⟩) hbb).trans (hat.nth 3 rfl)
      have q4 := (hb.cell (p := ⟨b, o + k * 7 + 4, none⟩) hbb).trans (hat.nth 4 rfl)
      have q5 := (hb.cell (p := ⟨b, o + k * 7 + 5, none⟩) hbb).trans (hat.nth 5 rfl)
      have q6 := (hb.cell (p := ⟨b, o + k * 7 + 6, none⟩) hbb).trans (hat.nth 6 rfl)
      clear hat hd hxl
      go_wp2_with fail
      refine (hE _ (List.getElem_mem hlt) _ _ _ (hri'.same (fun x hx => hb.block x (hS.lt x (hfi x hx))) hb.size) (by have := D.wts_mem (List.mem_map_of_mem (f := GVal.toD) (List.getElem_mem hlt)); omega)).mono ?_
      rintro e w1 ⟨fn, cs, rfl, hT, hF, hb1⟩
      have hTL := hT.lt
      have hT' := hT
      obtain ⟨u0, u1, u2, t0, t1, t2, rfl, rfl, hV0, hV1, hV2⟩ := GVal.opened.1 hT
      obtain ⟨B0, d0, rfl, hq0a, hq0b⟩ := hV0.formT
      obtain ⟨B1, d1, rfl, hq1a, hq1b⟩ := hV1.formT
      obtain ⟨B2, d2, rfl, hq2a, hq2b⟩ := hV2.formT
      clear hq0a hq0b hV0
      clear hq1a hq1b hV1
      clear hq2a hq2b hV2
      have hrow1 := hrow.below hb1
      have G1 : Below w.heap.size w w1 := hb.trans (hb1.mono hb.size)
      have k0 := hrow1.at_ (i := k * 7) (by have := hxk.out; omega)
      have k1 := hrow1.at_ (i := k * 7 + 1) (by have := hxk.out; omega)
      have k2 := hrow1.at_ (i := k * 7 + 2) (by have := hxk.out; omega)
      have k3 := hrow1.at_ (i := k * 7 + 3) (by have := hxk.out; omega)
      have k4 := hrow1.at_ (i := k * 7 + 4) (by have := hxk.out; omega)
      have k5 := hrow1.at_ (i := k * 7 + 5) (by have := hxk.out; omega)
      have k6 := hrow1.at_ (i := k * 7 + 6) (by have := hxk.out; omega)
      have hn1 := hrow1.frozen
      go_wp2_with fail
      go_roundw
      case rel =>
        have hxk := hxk.out
        have hxl := hxl'.out
        clear k0 k1 k2 k3 k4 k5 k6 hn1
        have hne : w.heap.size ∉ fs := fun h => by have := (hfr.2 _ h).1; omega
        have hnn : w.heap.size ∉ (t0 ++ (t1 ++ t2)) := fun h => by have := (hF.2 _ h).1; omega
        have hr := (hrs.below hb1).setCells hne (k * 7) [.int .i64 l[k].kind, .int .i64 l[k].n, .int .i64 l[k].step, .string l[k].text, .slice B0 l[k].list.length d0, .slice B1 l[k].cols.length d1, .slice B2 l[k].rows.length d2]
        have hr2 := hT'.setCells hnn (k * 7) [.int .i64 l[k].kind, .int .i64 l[k].n, .int .i64 l[k].step, .string l[k].text, .slice B0 l[k].list.length d0, .slice B1 l[k].cols.length d1, .slice B2 l[k].rows.length d2]
        refine ⟨k + 1, sets xs (k * 7) [.int .i64 l[k].kind, .int .i64 l[k].n, .int .i64 l[k].step, .string l[k].text, .slice B0 l[k].list.length d0, .slice B1 l[k].cols.length d1, .slice B2 l[k].rows.length d2], fs ++ (t0 ++ (t1 ++ t2)), by omega, by go_num, hrow1.sets [.int .i64 l[k].kind, .int .i64 l[k].n, .int .i64 l[k].step, .string l[k].text, .slice B0 l[k].list.length d0, .slice B1 l[k].cols.length d1, .slice B2 l[k].rows.length d2] (k * 7), by rw [sets_length]; exact hxl, ?_, ?_, ?_⟩
        · have e1 : (sets xs (k * 7) [.int .i64 l[k].kind, .int .i64 l[k].n, .int .i64 l[k].step, .string l[k].text, .slice B0 l[k].list.length d0, .slice B1 l[k].cols.length d1, .slice B2 l[k].rows.length d2]).take (k * 7 + 7) = xs.take (k * 7) ++ [.int .i64 l[k].kind, .int .i64 l[k].n, .int .i64 l[k].step, .string l[k].text, .slice B0 l[k].list.length d0, .slice B1 l[k].cols.length d1, .slice B2 l[k].rows.length d2] := sets_take [.int .i64 l[k].kind, .int .i64 l[k].n, .int .i64 l[k].step, .string l[k].text, .slice B0 l[k].list.length d0, .slice B1 l[k].cols.length d1, .slice B2 l[k].rows.length d2] xs (k * 7) hxk
          rw [show (k + 1) * 7 = k * 7 + 7 by omega, e1, List.take_succ_eq_append_getElem (by simpa using hlt), List.getElem_map]
          exact Rs.append (Rs.one hr2) hr
        · exact Free.append (mid := wr.heap.size) ((hfr.below hrs.lt hb1).setCells hne (k * 7) [.int .i64 l[k].kind, .int .i64 l[k].n, .int .i64 l[k].step, .string l[k].text, .slice B0 l[k].list.length d0, .slice B1 l[k].cols.length d1, .slice B2 l[k].rows.length d2]) hrs.lt (hF.setCells hnn (k * 7) [.int .i64 l[k].kind, .int .i64 l[k].n, .int .i64 l[k].step, .string l[k].text, .slice B0 l[k].list.length d0, .slice B1 l[k].cols.length d1, .slice B2 l[k].rows.length d2]) (by omega)
        · exact setCells_below (Nat.le_refl _) [.int .i64 l[k].kind, .int .i64 l[k].n, .int .i64 l[k].step, .string l[k].text, .slice B0 l[k].list.length d0, .slice B1 l[k].cols.length d1, .slice B2 l[k].rows.length d2] G1 (k * 7)
      case measure => simp [intOf]; omega
    · have hk' := Lib.hid (show k = l.length by omega)
      have hxl' := Lib.hid hxl
      clear hxl
      go_wp2_with fail
      go_ret
      have hxl := hxl'.out
      have hk := hk'.out
      subst hk
      rw [List.take_of_length_le (by simp), List.take_of_length_le (by omega)] at hrs
      exact ⟨_, _, rfl, Sl.of_row hrow hrs (by simp) (by unfold maxLen; omega), Free.cons_row hrow (Nat.le_refl _) hfr, hb⟩

theorem GVal.toSaid (x : GVal) : ToSaid Tryd.prog 20 x.toD := GVal.toSaid_of x (ValueS_toSaid_of _ fun y hy => GVal.toSaid y) (StringS_toSaid _) (RowS_toSaid _)
termination_by SizeOf.sizeOf x
decreasing_by exact GVal.lt_of_mem hy
theorem ValueS_toSaid (l : List GVal) : TosSaid Tryd.prog 46 (l.map GVal.toD) := ValueS_toSaid_of l fun x _ => x.toSaid

set_option maxHeartbeats 1000000 in
theorem GCell.toSaid_of (x : GCell) : ToSaid Tryd.prog 11 x.toD := by
  intro w fp cs hR hwt
  rw [GCell.wt_eq] at hwt
  obtain ⟨rfl, rfl⟩ := GCell.opened.1 hR
  clear hR
  go_enter Tryd.func11, Tryd.ntmps11
  go_wp2_with fail
  refine bodyPost_ret (v := .agg #[.int .i64 x.id, .int .i64 x.ver, .int .i64 x.kind, .string x.name, .string x.code, .int .i64 x.n]) (by simp [results, Tryd.results11, go_sem]) rfl ⟨[], _, rfl, GCell.opened.2 ⟨rfl, rfl⟩, Free.nil, ?_⟩
  repeat (first | exact Below.refl _ _ | refine Below.setCell ?_ (by simp; try omega) _ | refine Below.alloc ?_ (by simp; try omega) _)

theorem info_toCell : (Tryd.prog.info? 26).map (fun i => (i.zero, i.size, i.bytes)) = some (some (.agg #[.int .i64 0, .int .i64 0, .int .i64 0, .string ⟨#[]⟩, .string ⟨#[]⟩, .int .i64 0]), 6, 64) := by kernel_rfl
set_option maxHeartbeats 1000000 in
theorem CellS_toSaid_of (l : List GCell) (hE : ∀ x ∈ l, ToSaid Tryd.prog 11 x.toD) : TosSaid Tryd.prog 39 (l.map GCell.toD) := by
  intro w fp v hS hwt
  obtain ⟨A, c, rfl, hl, hc⟩ := hS.formT
  rw [List.length_map] at hwt
  obtain ⟨i0, hi0, hz0, hz1, hz2⟩ := info_parts info_toCell
  have hmk : ∀ W : World, (Instr.makeSlice 34 (.int .i64 (l.length : Int)) (.int .i64 (l.length : Int))).run Tryd.prog W = .ok (.slice (some ⟨W.heap.size, 0, none⟩) l.length l.length) (W.alloc (.cells (madeCells (Value.cells (.agg #[.int .i64 0, .int .i64 0, .int .i64 0, .string ⟨#[]⟩, .string ⟨#[]⟩, .int .i64 0])) (l.length * 6)) 26)) := fun W => by
    have h := run_make (P := Tryd.prog) W 34 26 i0 _ Tryd.underlying34 hi0 hz0 .i64 .i64 (l.length : Int) (l.length : Int) (by omega) (Int.le_refl _) (by rw [hz2]; omega) (by omega)
    rw [hz1] at h
    simpa using h
  clear hl hc hi0 hz0 hz1 hz2
  go_enter Tryd.func39, Tryd.ntmps39
  go_wp2_with fail
  go_loopw [4] (fun iv wr => ∃ (k : Nat) (xs : List Value) (fs : List Nat), k ≤ l.length ∧ iv = .int .i64 k ∧ Row wr w.heap.size 26 xs ∧ xs.length = l.length * 6 ∧ Rs wr ((l.map GCell.toD).take k) fs (xs.take (k * 6)) ∧ Free wr (w.heap.size + 1) fs ∧ Below w.heap.size w wr) (fun iv _ => l.length - (intOf iv).toNat)
  case atStart =>
    refine ⟨0, _, [], by omega, rfl, Row.new _ _ _, by simp [madeCells], by simp [Rs], Free.nil, (Below.refl _ _).alloc (Nat.le_refl _) _⟩
  case round =>
    obtain ⟨k, xs, fs, hk, rfl, hrow, hxl, hrs, hfr, hb⟩ := hrel
    by_cases hlt : k < l.length
    · have hd : (l.map GCell.toD)[k]? = some (GCell.toD l[k]) := by rw [List.getElem?_map, List.getElem?_eq_getElem hlt]; rfl
      obtain ⟨b, o, fi, ci, rfl, hbb, hbf, hri, hfi, hat⟩ := hS.elem GCell.szs hd
      have hri' := hri
      have hxk := Lib.hid (show k * 6 + 6 ≤ xs.length by rw [hxl]; omega)
      have hxl' := Lib.hid hxl
      have hlw := hrow.lt
      obtain ⟨rfl, rfl⟩ := GCell.opened.1 hri
      have q0 := (hb.cell (p := ⟨b, o + k * 6, none⟩) hbb).trans (hat.head)
      have q1 := (hb.cell (p := ⟨b, o + k * 6 + 1, none⟩) hbb).trans (hat.nth 1 rfl)
      have q2 := (hb.cell (p := ⟨b, o + k * 6 + 2, none⟩) hbb).trans (hat.nth 2 rfl)
      have q3 := (hb.cell (p := ⟨b, o + k * 6 + 3, none⟩) hbb).trans (hat.nth 3 rfl)
      have q4 := (hb.cell (p := ⟨b, o + k * 6 + 4, none⟩) hbb).trans (hat.nth 4 rfl)
      have q5 := (hb.cell (p := ⟨b, o + k * 6 + 5, none⟩) hbb).trans (hat.nth 5 rfl)
      clear hat hd hxl
      go_wp2_with fail
      refine (hE _ (List.getElem_mem hlt) _ _ _ (hri'.same (fun x hx => hb.block x (hS.lt x (hfi x hx))) hb.size) (by have := D.wts_mem (List.mem_map_of_mem (f := GCell.toD) (List.getElem_mem hlt)); omega)).mono ?_
      rintro e w1 ⟨fn, cs, rfl, hT, hF, hb1⟩
      have hTL := hT.lt
      have hT' := hT
      obtain ⟨rfl, rfl⟩ := GCell.opened.1 hT
      have hrow1 := hrow.below hb1
      have G1 : Below w.heap.size w w1 := hb.trans (hb1.mono hb.size)
      have k0 := hrow1.at_ (i := k * 6) (by have := hxk.out; omega)
      have k1 := hrow1.at_ (i := k * 6 + 1) (by have := hxk.out; omega)
      have k2 := hrow1.at_ (i := k * 6 + 2) (by have := hxk.out; omega)
      have k3 := hrow1.at_ (i := k * 6 + 3) (by have := hxk.out; omega)
      have k4 := hrow1.at_ (i := k * 6 + 4) (by have := hxk.out; omega)
      have k5 := hrow1.at_ (i := k * 6 + 5) (by have := hxk.out; omega)
      have hn1 := hrow1.frozen
      go_wp2_with fail
      go_roundw
      case rel =>
        have hxk := hxk.out
        have hxl := hxl'.out
        clear k0 k1 k2 k3 k4 k5 hn1
        have hne : w.heap.size ∉ fs := fun h => by have := (hfr.2 _ h).1; omega
        have hnn : w.heap.size ∉ ([] : List Nat) := fun h => by have := (hF.2 _ h).1; omega
        have hr := (hrs.below hb1).setCells hne (k * 6) [.int .i64 l[k].id, .int .i64 l[k].ver, .int .i64 l[k].kind, .string l[k].name, .string l[k].code, .int .i64 l[k].n]
        have hr2 := hT'.setCells hnn (k * 6) [.int .i64 l[k].id, .int .i64 l[k].ver, .int .i64 l[k].kind, .string l[k].name, .string l[k].code, .int .i64 l[k].n]
        refine ⟨k + 1, sets xs (k * 6) [.int .i64 l[k].id, .int .i64 l[k].ver, .int .i64 l[k].kind, .string l[k].name, .string l[k].code, .int .i64 l[k].n], fs ++ ([] : List Nat), by omega, by go_num, hrow1.sets [.int .i64 l[k].id, .int .i64 l[k].ver, .int .i64 l[k].kind, .string l[k].name, .string l[k].code, .int .i64 l[k].n] (k * 6), by rw [sets_length]; exact hxl, ?_, ?_, ?_⟩
        · have e1 : (sets xs (k * 6) [.int .i64 l[k].id, .int .i64 l[k].ver, .int .i64 l[k].kind, .string l[k].name, .string l[k].code, .int .i64 l[k].n]).take (k * 6 + 6) = xs.take (k * 6) ++ [.int .i64 l[k].id, .int .i64 l[k].ver, .int .i64 l[k].kind, .string l[k].name, .string l[k].code, .int .i64 l[k].n] := sets_take [.int .i64 l[k].id, .int .i64 l[k].ver, .int .i64 l[k].kind, .string l[k].name, .string l[k].code, .int .i64 l[k].n] xs (k * 6) hxk
          rw [show (k + 1) * 6 = k * 6 + 6 by omega, e1, List.take_succ_eq_append_getElem (by simpa using hlt), List.getElem_map]
          exact Rs.append (Rs.one hr2) hr
        · exact Free.append (mid := wr.heap.size) ((hfr.below hrs.lt hb1).setCells hne (k * 6) [.int .i64 l[k].id, .int .i64 l[k].ver, .int .i64 l[k].kind, .string l[k].name, .string l[k].code, .int .i64 l[k].n]) hrs.lt (hF.setCells hnn (k * 6) [.int .i64 l[k].id, .int .i64 l[k].ver, .int .i64 l[k].kind, .string l[k].name, .string l[k].code, .int .i64 l[k].n]) (by omega)
        · exact setCells_below (Nat.le_refl _) [.int .i64 l[k].id, .int .i64 l[k].ver, .int .i64 l[k].kind, .string l[k].name, .string l[k].code, .int .i64 l[k].n] G1 (k * 6)
      case measure => simp [intOf]; omega
    · have hk' := Lib.hid (show k = l.length by omega)
      have hxl' := Lib.hid hxl
      clear hxl
      go_wp2_with fail
      go_ret
      have hxl := hxl'.out
      have hk := hk'.out
      subst hk
      rw [List.take_of_length_le (by simp), List.take_of_length_le (by omega)] at hrs
      exact ⟨_, _, rfl, Sl.of_row hrow hrs (by simp) (by unfold maxLen; omega), Free.cons_row hrow (Nat.le_refl _) hfr, hb⟩

theorem GCell.toSaid (x : GCell) : ToSaid Tryd.prog 11 x.toD := GCell.toSaid_of x 
theorem CellS_toSaid (l : List GCell) : TosSaid Tryd.prog 39 (l.map GCell.toD) := CellS_toSaid_of l fun x _ => x.toSaid

set_option maxHeartbeats 1000000 in
theorem GNb.toSaid_of (x : GNb) (hE0 : TosSaid Tryd.prog 39 (x.cells.map GCell.toD)) : ToSaid Tryd.prog 15 x.toD := by
  intro w fp cs hR hwt
  rw [GNb.wt_eq] at hwt
  obtain ⟨v0, f0, rfl, rfl, hS0⟩ := GNb.opened.1 hR
  obtain ⟨A0, c0, rfl, hq0a, hq0b⟩ := hS0.formT
  clear hq0a hq0b
  clear hR
  go_enter Tryd.func15, Tryd.ntmps15
  go_wp2_with fail
  have hP0 : ∀ wx : World, Below w.heap.size w wx → Calls Tryd.prog 39 _ wx (TosPost _ wx) := fun wx hwx => hE0 wx _ _ (hS0.below hwx) (by omega)
  refine (hP0 _ ?_).mono ?_
  · exact (((Below.refl _ _).alloc (by simp) _).alloc (by simp; try omega) _).alloc (by simp; try omega) _
  rintro e w1 ⟨g0, v, rfl, hT0, hF0, hb1⟩
  have hL0 := hT0.lt
  have hX0 := hF0.past (lo := w.heap.size + 1) (hi := w.heap.size + 3) (by simp)
  replace hF0 := hF0.mono (base' := w.heap.size) (by simp; omega)
  obtain ⟨B0, d0, rfl, hq0a, hq0b⟩ := hT0.formT
  clear hq0a hq0b
  obtain ⟨hr10, hr11, hr12, hz1, G1⟩ := rows3 hb1
  clear hb1
  have k10 := hr10.cell
  have k11 := hr11.cell
  have k12 := hr12.cell
  have n10 := hr10.frozen
  have n11 := hr11.frozen
  have n12 := hr12.frozen
  go_wp2_with fail
  have hend := (GNb.opened (w := w1) (x := x)).2 ⟨_, _, rfl, rfl, hT0⟩
  have hfree := (hF0.mono (base' := w.heap.size) (by omega))
  have hpast := hX0
  refine bodyPost_ret (v := .agg #[.slice B0 x.cells.length d0]) (by simp [results, Tryd.results15, go_sem, k10, k11, k12]) rfl (ToPost.fin (lo := w.heap.size + 1) (hi := w.heap.size + 3) (b := w1) ?_ hend hfree hpast G1 (by omega))
  repeat (first | (with_reducible exact Kept.refl _ _ _) | ((with_reducible refine Kept.setCell ?_ ?_ ?_ _); rotate_left; (simp; try omega); (simp; try omega)))

theorem GNb.toSaid (x : GNb) : ToSaid Tryd.prog 15 x.toD := GNb.toSaid_of x (CellS_toSaid _)
end Go.Proofs.YtdjcflnemnknaaaDoor

namespace Go.Proofs.YtdjcflnemnknaaaDoor
open Go.RowKit
set_option linter.unusedSimpArgs false
set_option linter.unusedVariables false

set_option maxHeartbeats 2000000 in
theorem IntS_eqSaid_of (l : List Int) : EqsSaid Tryd.prog 112 (l.map li) := by
  intro w f1 f2 v1 v2 hS1 hS2
  obtain ⟨A, c, rfl, hl, hc⟩ := hS1.formT
  obtain ⟨A', c', rfl, hl', hc'⟩ := hS2.formT
  have hm : l.length ≤ 9223372036854775807 := by unfold maxLen at hc; omega
  clear hl hc hl' hc'
  go_enter Tryd.func112, Tryd.ntmps112
  go_wp2_with fail
  go_loopw [5] (fun iv wr => ∃ (k : Nat), k ≤ l.length ∧ iv = .int .i64 k ∧ Below w.heap.size w wr) (fun iv _ => l.length - (intOf iv).toNat)
  case atStart => exact ⟨0, by omega, rfl, Below.refl _ _⟩
  case round =>
    obtain ⟨k, hk, rfl, hb⟩ := hrel
    by_cases hlt : k < l.length
    · have hd : (l.map li)[k]? = some (li l[k]) := by rw [List.getElem?_map, List.getElem?_eq_getElem hlt]; rfl
      obtain ⟨b1, o1, fi1, ci1, rfl, hbb1, hbf1, hri1, hfi1, hat1⟩ := hS1.elem li_szs hd
      obtain ⟨b2, o2, fi2, ci2, rfl, hbb2, hbf2, hri2, hfi2, hat2⟩ := hS2.elem li_szs hd
      have hi1 : 0 ≤ (k : Int) := by omega
      have hi2 : (k : Int) < l.length := by omega
      have hri1' := hri1
      have hri2' := hri2
      obtain ⟨rfl, rfl⟩ := hri1
      have q10 : wr.cell? ⟨b1, o1 + k, none⟩ = some (.int .i64 l[k]) := (hb.cell (p := ⟨b1, o1 + k, none⟩) hbb1).trans (by simpa using hat1.head)
      obtain ⟨rfl, rfl⟩ := hri2
      have q20 : wr.cell? ⟨b2, o2 + k, none⟩ = some (.int .i64 l[k]) := (hb.cell (p := ⟨b2, o2 + k, none⟩) hbb2).trans (by simpa using hat2.head)
      clear hat1 hat2 hd
      go_wp2_with fail
      go_quiet (fail)
      go_wp2_with fail
      go_roundw
      case rel => exact ⟨k + 1, by omega, by go_num, below_drewN hb _⟩
      case measure => simp [intOf]; omega
    · go_wp2_with fail
      go_ret
      exact ⟨rfl, hb⟩

theorem IntS_eqSaid (l : List Int) : EqsSaid Tryd.prog 112 (l.map li) := IntS_eqSaid_of l

set_option maxHeartbeats 2000000 in
theorem StringS_eqSaid_of (l : List ByteArray) : EqsSaid Tryd.prog 52 (l.map ls) := by
  intro w f1 f2 v1 v2 hS1 hS2
  obtain ⟨A, c, rfl, hl, hc⟩ := hS1.formT
  obtain ⟨A', c', rfl, hl', hc'⟩ := hS2.formT
  have hm : l.length ≤ 9223372036854775807 := by unfold maxLen at hc; omega
  clear hl hc hl' hc'
  go_enter Tryd.func52, Tryd.ntmps52
  go_wp2_with fail
  go_loopw [5] (fun iv wr => ∃ (k : Nat), k ≤ l.length ∧ iv = .int .i64 k ∧ Below w.heap.size w wr) (fun iv _ => l.length - (intOf iv).toNat)
  case atStart => exact ⟨0, by omega, rfl, Below.refl _ _⟩
  case round =>
    obtain ⟨k, hk, rfl, hb⟩ := hrel
    by_cases hlt : k < l.length
    · have hd : (l.map ls)[k]? = some (ls l[k]) := by rw [List.getElem?_map, List.getElem?_eq_getElem hlt]; rfl
      obtain ⟨b1, o1, fi1, ci1, rfl, hbb1, hbf1, hri1, hfi1, hat1⟩ := hS1.elem ls_szs hd
      obtain ⟨b2, o2, fi2, ci2, rfl, hbb2, hbf2, hri2, hfi2, hat2⟩ := hS2.elem ls_szs hd
      have hi1 : 0 ≤ (k : Int) := by omega
      have hi2 : (k : Int) < l.length := by omega
      have hri1' := hri1
      have hri2' := hri2
      obtain ⟨rfl, rfl⟩ := hri1
      have q10 : wr.cell? ⟨b1, o1 + k, none⟩ = some (.string l[k]) := (hb.cell (p := ⟨b1, o1 + k, none⟩) hbb1).trans (by simpa using hat1.head)
      obtain ⟨rfl, rfl⟩ := hri2
      have q20 : wr.cell? ⟨b2, o2 + k, none⟩ = some (.string l[k]) := (hb.cell (p := ⟨b2, o2 + k, none⟩) hbb2).trans (by simpa using hat2.head)
      clear hat1 hat2 hd
      go_wp2_with fail
      go_quiet (fail)
      go_wp2_with fail
      go_roundw
      case rel => exact ⟨k + 1, by omega, by go_num, below_drewN hb _⟩
      case measure => simp [intOf]; omega
    · go_wp2_with fail
      go_ret
      exact ⟨rfl, hb⟩

theorem StringS_eqSaid (l : List ByteArray) : EqsSaid Tryd.prog 52 (l.map ls) := StringS_eqSaid_of l

set_option maxHeartbeats 1000000 in
theorem GOrigin.eqSaid_of (x : GOrigin) : EqSaid Tryd.prog 128 x.toD := by
  intro w f1 f2 cs1 cs2 hR hR2
  obtain ⟨rfl, rfl⟩ := GOrigin.opened.1 hR
  clear hR
  obtain ⟨rfl, rfl⟩ := GOrigin.opened.1 hR2
  clear hR2
  go_enter Tryd.func128, Tryd.ntmps128
  go_wp2_with fail
  go_ret
  exact ⟨rfl, ((Below.refl _ _).alloc (Nat.le_refl _) _).alloc (by simp) _⟩

set_option maxHeartbeats 2000000 in
theorem OriginS_eqSaid_of (l : List GOrigin) (hE : ∀ x ∈ l, EqSaid Tryd.prog 128 x.toD) : EqsSaid Tryd.prog 113 (l.map GOrigin.toD) := by
  intro w f1 f2 v1 v2 hS1 hS2
  obtain ⟨A, c, rfl, hl, hc⟩ := hS1.formT
  obtain ⟨A', c', rfl, hl', hc'⟩ := hS2.formT
  have hm : l.length ≤ 9223372036854775807 := by unfold maxLen at hc; omega
  clear hl hc hl' hc'
  go_enter Tryd.func113, Tryd.ntmps113
  go_wp2_with fail
  go_loopw [5] (fun iv wr => ∃ (k : Nat), k ≤ l.length ∧ iv = .int .i64 k ∧ Below w.heap.size w wr) (fun iv _ => l.length - (intOf iv).toNat)
  case atStart => exact ⟨0, by omega, rfl, Below.refl _ _⟩
  case round =>
    obtain ⟨k, hk, rfl, hb⟩ := hrel
    by_cases hlt : k < l.length
    · have hd : (l.map GOrigin.toD)[k]? = some (GOrigin.toD l[k]) := by rw [List.getElem?_map, List.getElem?_eq_getElem hlt]; rfl
      obtain ⟨b1, o1, fi1, ci1, rfl, hbb1, hbf1, hri1, hfi1, hat1⟩ := hS1.elem GOrigin.szs hd
      obtain ⟨b2, o2, fi2, ci2, rfl, hbb2, hbf2, hri2, hfi2, hat2⟩ := hS2.elem GOrigin.szs hd
      have hi1 : 0 ≤ (k : Int) := by omega
      have hi2 : (k : Int) < l.length := by omega
      have hri1' := hri1
      have hri2' := hri2
      obtain ⟨rfl, rfl⟩ := GOrigin.opened.1 hri1
      have q10 : wr.cell? ⟨b1, o1 + k * 2, none⟩ = some (.int .i64 l[k].cell) := (hb.cell (p := ⟨b1, o1 + k * 2, none⟩) hbb1).trans (hat1.head)
      have q11 : wr.cell? ⟨b1, o1 + k * 2 + 1, none⟩ = some (.int .i64 l[k].row) := (hb.cell (p := ⟨b1, o1 + k * 2 + 1, none⟩) hbb1).trans (hat1.nth 1 rfl)
      obtain ⟨rfl, rfl⟩ := GOrigin.opened.1 hri2
      have q20 : wr.cell? ⟨b2, o2 + k * 2, none⟩ = some (.int .i64 l[k].cell) := (hb.cell (p := ⟨b2, o2 + k * 2, none⟩) hbb2).trans (hat2.head)
      have q21 : wr.cell? ⟨b2, o2 + k * 2 + 1, none⟩ = some (.int .i64 l[k].row) := (hb.cell (p := ⟨b2, o2 + k * 2 + 1, none⟩) hbb2).trans (hat2.nth 1 rfl)
      clear hat1 hat2 hd hri1 hri2
      have hbr1 : b1 < wr.heap.size := Nat.lt_of_lt_of_le hbb1 hb.size
      have hbr2 : b2 < wr.heap.size := Nat.lt_of_lt_of_le hbb2 hb.size
      have hP : ∀ wx : World, Below wr.heap.size wr wx → Calls Tryd.prog 128 _ wx (TruePost wx) := fun wx hwx => hE _ (List.getElem_mem hlt) wx _ _ _ _ ((hri1'.same (fun x hx => hb.block x (hS1.lt x (hfi1 x hx))) hb.size).below hwx) ((hri2'.same (fun x hx => hb.block x (hS2.lt x (hfi2 x hx))) hb.size).below hwx)
      clear hri1' hri2' hE
      go_wp2_with fail
      go_region_held3 (fun w' => w'.cell? ⟨b1, o1 + k * 2, none⟩ = some (.int .i64 l[k].cell) ∧ w'.cell? ⟨b1, o1 + k * 2 + 1, none⟩ = some (.int .i64 l[k].row) ∧ w'.cell? ⟨b2, o2 + k * 2, none⟩ = some (.int .i64 l[k].cell) ∧ w'.cell? ⟨b2, o2 + k * 2 + 1, none⟩ = some (.int .i64 l[k].row)) (go_keep)
        ((go_at_call 128; refine (hP _ ?_).mono ?_; (exact (Below.refl _ _).drew); rintro e w1 ⟨rfl, hb1⟩; have hc1 : ∀ o, w1.cell? ⟨b1, o, none⟩ = wr.cell? ⟨b1, o, none⟩ := fun o => hb1.cell (p := ⟨b1, o, none⟩) hbr1; have hc2 : ∀ o, w1.cell? ⟨b2, o, none⟩ = wr.cell? ⟨b2, o, none⟩ := fun o => hb1.cell (p := ⟨b2, o, none⟩) hbr2))
      go_wp2_with fail
      go_roundw
      case rel => exact ⟨k + 1, by omega, by go_num, hb.drew.trans (hb1.mono hb.size)⟩
      case measure => simp [intOf]; omega
    · go_wp2_with fail
      go_ret
      exact ⟨rfl, hb⟩

theorem GOrigin.eqSaid (x : GOrigin) : EqSaid Tryd.prog 128 x.toD := GOrigin.eqSaid_of x 
theorem OriginS_eqSaid (l : List GOrigin) : EqsSaid Tryd.prog 113 (l.map GOrigin.toD) := OriginS_eqSaid_of l fun x _ => x.eqSaid

set_option maxHeartbeats 1000000 in
theorem GRow.eqSaid_of (x : GRow) (hE0 : EqsSaid Tryd.prog 112 (x.cells.map li)) (hE1 : EqsSaid Tryd.prog 113 (x.src.map GOrigin.toD)) : EqSaid Tryd.prog 88 x.toD := by
  intro w f1 f2 cs1 cs2 hR hR2
  obtain ⟨vA0, vA1, fA0, fA1, rfl, rfl, hSA0, hSA1⟩ := GRow.opened.1 hR
  obtain ⟨A0, cA0, rfl, hqa, hqb⟩ := hSA0.formT
  clear hqa hqb
  obtain ⟨A1, cA1, rfl, hqa, hqb⟩ := hSA1.formT
  clear hqa hqb
  clear hR
  obtain ⟨vB0, vB1, fB0, fB1, rfl, rfl, hSB0, hSB1⟩ := GRow.opened.1 hR2
  obtain ⟨B0, cB0, rfl, hqa, hqb⟩ := hSB0.formT
  clear hqa hqb
  obtain ⟨B1, cB1, rfl, hqa, hqb⟩ := hSB1.formT
  clear hqa hqb
  clear hR2
  go_enter Tryd.func88, Tryd.ntmps88
  go_wp2_with fail
  have hP0 : ∀ wx : World, Below w.heap.size w wx → Calls Tryd.prog 112 _ wx (TruePost wx) := fun wx hwx => hE0 wx _ _ _ _ (hSA0.below hwx) (hSB0.below hwx)
  refine (hP0 _ ?_).mono ?_
  · exact ((Below.refl _ _).alloc (by simp) _).alloc (by simp; try omega) _
  rintro e w1 ⟨rfl, hb1⟩
  obtain ⟨hr10, hr11, hz1, G1⟩ := rows2 hb1
  clear hb1
  have k10 := hr10.cell
  have k11 := hr11.cell
  go_wp2_with fail
  have hP1 : ∀ wx : World, Below w.heap.size w wx → Calls Tryd.prog 113 _ wx (TruePost wx) := fun wx hwx => hE1 wx _ _ _ _ (hSA1.below hwx) (hSB1.below hwx)
  refine (hP1 _ ?_).mono ?_
  · exact G1
  rintro e w2 ⟨rfl, hb2⟩
  have hr20 := hr10.below hb2
  have hr21 := hr11.below hb2
  have hz2 : w.heap.size + 2 ≤ w2.heap.size := Nat.le_trans hz1 hb2.size
  have G2 : Below w.heap.size w w2 := G1.trans (hb2.mono (by omega))
  clear hb2
  have k20 := hr20.cell
  have k21 := hr21.cell
  go_wp2_with fail
  go_ret
  exact ⟨rfl, G2⟩

set_option maxHeartbeats 2000000 in
theorem RowS_eqSaid_of (l : List GRow) (hE : ∀ x ∈ l, EqSaid Tryd.prog 88 x.toD) : EqsSaid Tryd.prog 53 (l.map GRow.toD) := by
  intro w f1 f2 v1 v2 hS1 hS2
  obtain ⟨A, c, rfl, hl, hc⟩ := hS1.formT
  obtain ⟨A', c', rfl, hl', hc'⟩ := hS2.formT
  have hm : l.length ≤ 9223372036854775807 := by unfold maxLen at hc; omega
  clear hl hc hl' hc'
  go_enter Tryd.func53, Tryd.ntmps53
  go_wp2_with fail
  go_loopw [5] (fun iv wr => ∃ (k : Nat), k ≤ l.length ∧ iv = .int .i64 k ∧ Below w.heap.size w wr) (fun iv _ => l.length - (intOf iv).toNat)
  case atStart => exact ⟨0, by omega, rfl, Below.refl _ _⟩
  case round =>
    obtain ⟨k, hk, rfl, hb⟩ := hrel
    by_cases hlt : k < l.length
    · have hd : (l.map GRow.toD)[k]? = some (GRow.toD l[k]) := by rw [List.getElem?_map, List.getElem?_eq_getElem hlt]; rfl
      obtain ⟨b1, o1, fi1, ci1, rfl, hbb1, hbf1, hri1, hfi1, hat1⟩ := hS1.elem GRow.szs hd
      obtain ⟨b2, o2, fi2, ci2, rfl, hbb2, hbf2, hri2, hfi2, hat2⟩ := hS2.elem GRow.szs hd
      have hi1 : 0 ≤ (k : Int) := by omega
      have hi2 : (k : Int) < l.length := by omega
      have hri1' := hri1
      have hri2' := hri2
      obtain ⟨v10, v11, g10, g11, rfl, rfl, hV10, hV11⟩ := GRow.opened.1 hri1
      obtain ⟨A10, c10, rfl, hqa, hqb⟩ := hV10.formT
      clear hqa hqb hV10
      obtain ⟨A11, c11, rfl, hqa, hqb⟩ := hV11.formT
      clear hqa hqb hV11
      have q10 : wr.cell? ⟨b1, o1 + k * 2, none⟩ = some (.slice A10 l[k].cells.length c10) := (hb.cell (p := ⟨b1, o1 + k * 2, none⟩) hbb1).trans (hat1.head)
      have q11 : wr.cell? ⟨b1, o1 + k * 2 + 1, none⟩ = some (.slice A11 l[k].src.length c11) := (hb.cell (p := ⟨b1, o1 + k * 2 + 1, none⟩) hbb1).trans (hat1.nth 1 rfl)
      obtain ⟨v20, v21, g20, g21, rfl, rfl, hV20, hV21⟩ := GRow.opened.1 hri2
      obtain ⟨A20, c20, rfl, hqa, hqb⟩ := hV20.formT
      clear hqa hqb hV20
      obtain ⟨A21, c21, rfl, hqa, hqb⟩ := hV21.formT
      clear hqa hqb hV21
      have q20 : wr.cell? ⟨b2, o2 + k * 2, none⟩ = some (.slice A20 l[k].cells.length c20) := (hb.cell (p := ⟨b2, o2 + k * 2, none⟩) hbb2).trans (hat2.head)
      have q21 : wr.cell? ⟨b2, o2 + k * 2 + 1, none⟩ = some (.slice A21 l[k].src.length c21) := (hb.cell (p := ⟨b2, o2 + k * 2 + 1, none⟩) hbb2).trans (hat2.nth 1 rfl)
      clear hat1 hat2 hd hri1 hri2
      have hbr1 : b1 < wr.heap.size := Nat.lt_of_lt_of_le hbb1 hb.size
      have hbr2 : b2 < wr.heap.size := Nat.lt_of_lt_of_le hbb2 hb.size
      have hP : ∀ wx : World, Below wr.heap.size wr wx → Calls Tryd.prog 88 _ wx (TruePost wx) := fun wx hwx => hE _ (List.getElem_mem hlt) wx _ _ _ _ ((hri1'.same (fun x hx => hb.block x (hS1.lt x (hfi1 x hx))) hb.size).below hwx) ((hri2'.same (fun x hx => hb.block x (hS2.lt x (hfi2 x hx))) hb.size).below hwx)
      clear hri1' hri2' hE
      go_wp2_with fail
      go_region_held3 (fun w' => w'.cell? ⟨b1, o1 + k * 2, none⟩ = some (.slice A10 l[k].cells.length c10) ∧ w'.cell? ⟨b1, o1 + k * 2 + 1, none⟩ = some (.slice A11 l[k].src.length c11) ∧ w'.cell? ⟨b2, o2 + k * 2, none⟩ = some (.slice A20 l[k].cells.length c20) ∧ w'.cell? ⟨b2, o2 + k * 2 + 1, none⟩ = some (.slice A21 l[k].src.length c21)) (go_keep)
        ((go_at_call 88; refine (hP _ ?_).mono ?_; (exact (Below.refl _ _).drew); rintro e w1 ⟨rfl, hb1⟩; have hc1 : ∀ o, w1.cell? ⟨b1, o, none⟩ = wr.cell? ⟨b1, o, none⟩ := fun o => hb1.cell (p := ⟨b1, o, none⟩) hbr1; have hc2 : ∀ o, w1.cell? ⟨b2, o, none⟩ = wr.cell? ⟨b2, o, none⟩ := fun o => hb1.cell (p := ⟨b2, o, none⟩) hbr2))
      go_wp2_with fail
      go_roundw
      case rel => exact ⟨k + 1, by omega, by go_num, hb.drew.trans (hb1.mono hb.size)⟩
      case measure => simp [intOf]; omega
    · go_wp2_with fail
      go_ret
      exact ⟨rfl, hb⟩

theorem GRow.eqSaid (x : GRow) : EqSaid Tryd.prog 88 x.toD := GRow.eqSaid_of x (IntS_eqSaid _) (OriginS_eqSaid _)
theorem RowS_eqSaid (l : List GRow) : EqsSaid Tryd.prog 53 (l.map GRow.toD) := RowS_eqSaid_of l fun x _ => x.eqSaid

set_option maxHeartbeats 1000000 in
theorem GVal.eqSaid_of (x : GVal) (hE0 : EqsSaid Tryd.prog 51 (x.list.map GVal.toD)) (hE1 : EqsSaid Tryd.prog 52 (x.cols.map ls)) (hE2 : EqsSaid Tryd.prog 53 (x.rows.map GRow.toD)) : EqSaid Tryd.prog 22 x.toD := by
  intro w f1 f2 cs1 cs2 hR hR2
  obtain ⟨vA0, vA1, vA2, fA0, fA1, fA2, rfl, rfl, hSA0, hSA1, hSA2⟩ := GVal.opened.1 hR
  obtain ⟨A0, cA0, rfl, hqa, hqb⟩ := hSA0.formT
  clear hqa hqb
  obtain ⟨A1, cA1, rfl, hqa, hqb⟩ := hSA1.formT
  clear hqa hqb
  obtain ⟨A2, cA2, rfl, hqa, hqb⟩ := hSA2.formT
  clear hqa hqb
  clear hR
  obtain ⟨vB0, vB1, vB2, fB0, fB1, fB2, rfl, rfl, hSB0, hSB1, hSB2⟩ := GVal.opened.1 hR2
  obtain ⟨B0, cB0, rfl, hqa, hqb⟩ := hSB0.formT
  clear hqa hqb
  obtain ⟨B1, cB1, rfl, hqa, hqb⟩ := hSB1.formT
  clear hqa hqb
  obtain ⟨B2, cB2, rfl, hqa, hqb⟩ := hSB2.formT
  clear hqa hqb
  clear hR2
  go_enter Tryd.func22, Tryd.ntmps22
  go_wp2_with fail
  have hP0 : ∀ wx : World, Below w.heap.size w wx → Calls Tryd.prog 51 _ wx (TruePost wx) := fun wx hwx => hE0 wx _ _ _ _ (hSA0.below hwx) (hSB0.below hwx)
  refine (hP0 _ ?_).mono ?_
  · exact ((Below.refl _ _).alloc (by simp) _).alloc (by simp; try omega) _
  rintro e w1 ⟨rfl, hb1⟩
  obtain ⟨hr10, hr11, hz1, G1⟩ := rows2 hb1
  clear hb1
  have k10 := hr10.cell
  have k11 := hr11.cell
  go_wp2_with fail
  have hP1 : ∀ wx : World, Below w.heap.size w wx → Calls Tryd.prog 52 _ wx (TruePost wx) := fun wx hwx => hE1 wx _ _ _ _ (hSA1.below hwx) (hSB1.below hwx)
  refine (hP1 _ ?_).mono ?_
  · exact G1
  rintro e w2 ⟨rfl, hb2⟩
  have hr20 := hr10.below hb2
  have hr21 := hr11.below hb2
  have hz2 : w.heap.size + 2 ≤ w2.heap.size := Nat.le_trans hz1 hb2.size
  have G2 : Below w.heap.size w w2 := G1.trans (hb2.mono (by omega))
  clear hb2
  have k20 := hr20.cell
  have k21 := hr21.cell
  go_wp2_with fail
  have hP2 : ∀ wx : World, Below w.heap.size w wx → Calls Tryd.prog 53 _ wx (TruePost wx) := fun wx hwx => hE2 wx _ _ _ _ (hSA2.below hwx) (hSB2.below hwx)
  refine (hP2 _ ?_).mono ?_
  · exact G2
  rintro e w3 ⟨rfl, hb3⟩
  have hr30 := hr20.below hb3
  have hr31 := hr21.below hb3
  have hz3 : w.heap.size + 2 ≤ w3.heap.size := Nat.le_trans hz2 hb3.size
  have G3 : Below w.heap.size w w3 := G2.trans (hb3.mono (by omega))
  clear hb3
  have k30 := hr30.cell
  have k31 := hr31.cell
  go_wp2_with fail
  go_ret
  exact ⟨rfl, G3⟩

set_option maxHeartbeats 2000000 in
theorem ValueS_eqSaid_of (l : List GVal) (hE : ∀ x ∈ l, EqSaid Tryd.prog 22 x.toD) : EqsSaid Tryd.prog 51 (l.map GVal.toD) := by
  intro w f1 f2 v1 v2 hS1 hS2
  obtain ⟨A, c, rfl, hl, hc⟩ := hS1.formT
  obtain ⟨A', c', rfl, hl', hc'⟩ := hS2.formT
  have hm : l.length ≤ 9223372036854775807 := by unfold maxLen at hc; omega
  clear hl hc hl' hc'
  go_enter Tryd.func51, Tryd.ntmps51
  go_wp2_with fail
  go_loopw [5] (fun iv wr => ∃ (k : Nat), k ≤ l.length ∧ iv = .int .i64 k ∧ Below w.heap.size w wr) (fun iv _ => l.length - (intOf iv).toNat)
  case atStart => exact ⟨0, by omega, rfl, Below.refl _ _⟩
  case round =>
    obtain ⟨k, hk, rfl, hb⟩ := hrel
    by_cases hlt : k < l.length
    · have hd : (l.map GVal.toD)[k]? = some (GVal.toD l[k]) := by rw [List.getElem?_map, List.getElem?_eq_getElem hlt]; rfl
      obtain ⟨b1, o1, fi1, ci1, rfl, hbb1, hbf1, hri1, hfi1, hat1⟩ := hS1.elem GVal.szs hd
      obtain ⟨b2, o2, fi2, ci2, rfl, hbb2, hbf2, hri2, hfi2, hat2⟩ := hS2.elem GVal.szs hd
      have hi1 : 0 ≤ (k : Int) := by omega
      have hi2 : (k : Int) < l.length := by omega
      have hri1' := hri1
      have hri2' := hri2
      obtain ⟨v10, v11, v12, g10, g11, g12, rfl, rfl, hV10, hV11, hV12⟩ := GVal.opened.1 hri1
      obtain ⟨A10, c10, rfl, hqa, hqb⟩ := hV10.formT
      clear hqa hqb hV10
      obtain ⟨A11, c11, rfl, hqa, hqb⟩ := hV11.formT
      clear hqa hqb hV11
      obtain ⟨A12, c12, rfl, hqa, hqb⟩ := hV12.formT
      clear hqa hqb hV12
      have q10 : wr.cell? ⟨b1, o1 + k * 7, none⟩ = some (.int .i64 l[k].kind) := (hb.cell (p := ⟨b1, o1 + k * 7, none⟩) hbb1).trans (hat1.head)
      have q11 : wr.cell? ⟨b1, o1 + k * 7 + 1, none⟩ = some (.int .i64 l[k].n) := (hb.cell (p := ⟨b1, o1 + k * 7 + 1, none⟩) hbb1).trans (hat1.nth 1 rfl)
      have q12 : wr.cell? ⟨b1, o1 + k * 7 + 2, none⟩ = some (.int .i64 l[k].step) := (hb.cell (p := ⟨b1, o1 + k * 7 + 2, none⟩) hbb1).trans (hat1.nth 2 rfl)
      have q13 : wr.cell? ⟨b1, o1 + k * 7 + 3, none⟩ = some (.string l[k].text) := (hb.cell (p := ⟨b1, o1 + k * 7 + 3, none⟩) hbb1).trans (hat1.nth 3 rfl)
      have q14 : wr.cell? ⟨b1, o1 + k * 7 + 4, none⟩ = some (.slice A10 l[k].list.length c10) := (hb.cell (p := ⟨b1, o1 + k * 7 + 4, none⟩) hbb1).trans (hat1.nth 4 rfl)
      have q15 : wr.cell? ⟨b1, o1 + k * 7 + 5, none⟩ = some (.slice A11 l[k].cols.length c11) := (hb.cell (p := ⟨b1, o1 + k * 7 + 5, none⟩) hbb1).trans (hat1.nth 5 rfl)
      have q16 : wr.cell? ⟨b1, o1 + k * 7 + 6, none⟩ = some (.slice A12 l[k].rows.length c12) := (hb.cell (p := ⟨b1, o1 + k * 7 + 6, none⟩) hbb1).trans (hat1.nth 6 rfl)
      obtain ⟨v20, v21, v22, g20, g21, g22, rfl, rfl, hV20, hV21, hV22⟩ := GVal.opened.1 hri2
      obtain ⟨A20, c20, rfl, hqa, hqb⟩ := hV20.formT
      clear hqa hqb hV20
      obtain ⟨A21, c21, rfl, hqa, hqb⟩ := hV21.formT
      clear hqa hqb hV21
      obtain ⟨A22, c22, rfl, hqa, hqb⟩ := hV22.formT
      clear hqa hqb hV22
      have q20 : wr.cell? ⟨b2, o2 + k * 7, none⟩ = some (.int .i64 l[k].kind) := (hb.cell (p := ⟨b2, o2 + k * 7, none⟩) hbb2).trans (hat2.head)
      have q21 : wr.cell? ⟨b2, o2 + k * 7 + 1, none⟩ = some (.int .i64 l[k].n) := (hb.cell (p := ⟨b2, o2 + k * 7 + 1, none⟩) hbb2).trans (hat2.nth 1 rfl)
      have q22 : wr.cell? ⟨b2, o2 + k * 7 + 2, none⟩ = some (.int .i64 l[k].step) := (hb.cell (p := ⟨b2, o2 + k * 7 + 2, none⟩) hbb2).trans (hat2.nth 2 rfl)
      have q23 : wr.cell? ⟨b2, o2 + k * 7 + 3, none⟩ = some (.string l[k].text) := (hb.cell (p := ⟨b2, o2 + k * 7 + 3, none⟩) hbb2).trans (hat2.nth 3 rfl)
      have q24 : wr.cell? ⟨b2, o2 + k * 7 + 4, none⟩ = some (.slice A20 l[k].list.length c20) := (hb.cell (p := ⟨b2, o2 + k * 7 + 4, none⟩) hbb2).trans (hat2.nth 4 rfl)
      have q25 : wr.cell? ⟨b2, o2 + k * 7 + 5, none⟩ = some (.slice A21 l[k].cols.length c21) := (hb.cell (p := ⟨b2, o2 + k * 7 + 5, none⟩) hbb2).trans (hat2.nth 5 rfl)
      have q26 : wr.cell? ⟨b2, o2 + k * 7 + 6, none⟩ = some (.slice A22 l[k].rows.length c22) := (hb.cell (p := ⟨b2, o2 + k * 7 + 6, none⟩) hbb2).trans (hat2.nth 6 rfl)
      clear hat1 hat2 hd hri1 hri2
      have hbr1 : b1 < wr.heap.size := Nat.lt_of_lt_of_le hbb1 hb.size
      have hbr2 : b2 < wr.heap.size := Nat.lt_of_lt_of_le hbb2 hb.size
      have hP : ∀ wx : World, Below wr.heap.size wr wx → Calls Tryd.prog 22 _ wx (TruePost wx) := fun wx hwx => hE _ (List.getElem_mem hlt) wx _ _ _ _ ((hri1'.same (fun x hx => hb.block x (hS1.lt x (hfi1 x hx))) hb.size).below hwx) ((hri2'.same (fun x hx => hb.block x (hS2.lt x (hfi2 x hx))) hb.size).below hwx)
      clear hri1' hri2' hE
      go_wp2_with fail
      go_region_held3 (fun w' => w'.cell? ⟨b1, o1 + k * 7, none⟩ = some (.int .i64 l[k].kind) ∧ w'.cell? ⟨b1, o1 + k * 7 + 1, none⟩ = some (.int .i64 l[k].n) ∧ w'.cell? ⟨b1, o1 + k * 7 + 2, none⟩ = some (.int .i64 l[k].step) ∧ w'.cell? ⟨b1, o1 + k * 7 + 3, none⟩ = some (.string l[k].text) ∧ w'.cell? ⟨b1, o1 + k * 7 + 4, none⟩ = some (.slice A10 l[k].list.length c10) ∧ w'.cell? ⟨b1, o1 + k * 7 + 5, none⟩ = some (.slice A11 l[k].cols.length c11) ∧ w'.cell? ⟨b1, o1 + k * 7 + 6, none⟩ = some (.slice A12 l[k].rows.length c12) ∧ w'.cell? ⟨b2, o2 + k * 7, none⟩ = some (.int .i64 l[k].kind) ∧ w'.cell? ⟨b2, o2 + k * 7 + 1, none⟩ = some (.int .i64 l[k].n) ∧ w'.cell? ⟨b2, o2 + k * 7 + 2, none⟩ = some (.int .i64 l[k].step) ∧ w'.cell? ⟨b2, o2 + k * 7 + 3, none⟩ = some (.string l[k].text) ∧ w'.cell? ⟨b2, o2 + k * 7 + 4, none⟩ = some (.slice A20 l[k].list.length c20) ∧ w'.cell? ⟨b2, o2 + k * 7 + 5, none⟩ = some (.slice A21 l[k].cols.length c21) ∧ w'.cell? ⟨b2, o2 + k * 7 + 6, none⟩ = some (.slice A22 l[k].rows.length c22)) (go_keep)
        ((go_at_call 22; refine (hP _ ?_).mono ?_; (exact (Below.refl _ _).drew); rintro e w1 ⟨rfl, hb1⟩; have hc1 : ∀ o, w1.cell? ⟨b1, o, none⟩ = wr.cell? ⟨b1, o, none⟩ := fun o => hb1.cell (p := ⟨b1, o, none⟩) hbr1; have hc2 : ∀ o, w1.cell? ⟨b2, o, none⟩ = wr.cell? ⟨b2, o, none⟩ := fun o => hb1.cell (p := ⟨b2, o, none⟩) hbr2))
      go_wp2_with fail
      go_roundw
      case rel => exact ⟨k + 1, by omega, by go_num, hb.drew.trans (hb1.mono hb.size)⟩
      case measure => simp [intOf]; omega
    · go_wp2_with fail
      go_ret
      exact ⟨rfl, hb⟩

theorem GVal.eqSaid (x : GVal) : EqSaid Tryd.prog 22 x.toD := GVal.eqSaid_of x (ValueS_eqSaid_of _ fun y hy => GVal.eqSaid y) (StringS_eqSaid _) (RowS_eqSaid _)
termination_by SizeOf.sizeOf x
decreasing_by exact GVal.lt_of_mem hy
theorem ValueS_eqSaid (l : List GVal) : EqsSaid Tryd.prog 51 (l.map GVal.toD) := ValueS_eqSaid_of l fun x _ => x.eqSaid

set_option maxHeartbeats 1000000 in
theorem GCell.eqSaid_of (x : GCell) : EqSaid Tryd.prog 25 x.toD := by
  intro w f1 f2 cs1 cs2 hR hR2
  obtain ⟨rfl, rfl⟩ := GCell.opened.1 hR
  clear hR
  obtain ⟨rfl, rfl⟩ := GCell.opened.1 hR2
  clear hR2
  go_enter Tryd.func25, Tryd.ntmps25
  go_wp2_with fail
  go_ret
  exact ⟨rfl, ((Below.refl _ _).alloc (Nat.le_refl _) _).alloc (by simp) _⟩

set_option maxHeartbeats 2000000 in
theorem CellS_eqSaid_of (l : List GCell) (hE : ∀ x ∈ l, EqSaid Tryd.prog 25 x.toD) : EqsSaid Tryd.prog 41 (l.map GCell.toD) := by
  intro w f1 f2 v1 v2 hS1 hS2
  obtain ⟨A, c, rfl, hl, hc⟩ := hS1.formT
  obtain ⟨A', c', rfl, hl', hc'⟩ := hS2.formT
  have hm : l.length ≤ 9223372036854775807 := by unfold maxLen at hc; omega
  clear hl hc hl' hc'
  go_enter Tryd.func41, Tryd.ntmps41
  go_wp2_with fail
  go_loopw [5] (fun iv wr => ∃ (k : Nat), k ≤ l.length ∧ iv = .int .i64 k ∧ Below w.heap.size w wr) (fun iv _ => l.length - (intOf iv).toNat)
  case atStart => exact ⟨0, by omega, rfl, Below.refl _ _⟩
  case round =>
    obtain ⟨k, hk, rfl, hb⟩ := hrel
    by_cases hlt : k < l.length
    · have hd : (l.map GCell.toD)[k]? = some (GCell.toD l[k]) := by rw [List.getElem?_map, List.getElem?_eq_getElem hlt]; rfl
      obtain ⟨b1, o1, fi1, ci1, rfl, hbb1, hbf1, hri1, hfi1, hat1⟩ := hS1.elem GCell.szs hd
      obtain ⟨b2, o2, fi2, ci2, rfl, hbb2, hbf2, hri2, hfi2, hat2⟩ := hS2.elem GCell.szs hd
      have hi1 : 0 ≤ (k : Int) := by omega
      have hi2 : (k : Int) < l.length := by omega
      have hri1' := hri1
      have hri2' := hri2
      obtain ⟨rfl, rfl⟩ := GCell.opened.1 hri1
      have q10 : wr.cell? ⟨b1, o1 + k * 6, none⟩ = some (.int .i64 l[k].id) := (hb.cell (p := ⟨b1, o1 + k * 6, none⟩) hbb1).trans (hat1.head)
      have q11 : wr.cell? ⟨b1, o1 + k * 6 + 1, none⟩ = some (.int .i64 l[k].ver) := (hb.cell (p := ⟨b1, o1 + k * 6 + 1, none⟩) hbb1).trans (hat1.nth 1 rfl)
      have q12 : wr.cell? ⟨b1, o1 + k * 6 + 2, none⟩ = some (.int .i64 l[k].kind) := (hb.cell (p := ⟨b1, o1 + k * 6 + 2, none⟩) hbb1).trans (hat1.nth 2 rfl)
      have q13 : wr.cell? ⟨b1, o1 + k * 6 + 3, none⟩ = some (.string l[k].name) := (hb.cell (p := ⟨b1, o1 + k * 6 + 3, none⟩) hbb1).trans (hat1.nth 3 rfl)
      have q14 : wr.cell? ⟨b1, o1 + k * 6 + 4, none⟩ = some (.string l[k].code) := (hb.cell (p := ⟨b1, o1 + k * 6 + 4, none⟩) hbb1).trans (hat1.nth 4 rfl)
      have q15 : wr.cell? ⟨b1, o1 + k * 6 + 5, none⟩ = some (.int .i64 l[k].n) := (hb.cell (p := ⟨b1, o1 + k * 6 + 5, none⟩) hbb1).trans (hat1.nth 5 rfl)
      obtain ⟨rfl, rfl⟩ := GCell.opened.1 hri2
      have q20 : wr.cell? ⟨b2, o2 + k * 6, none⟩ = some (.int .i64 l[k].id) := (hb.cell (p := ⟨b2, o2 + k * 6, none⟩) hbb2).trans (hat2.head)
      have q21 : wr.cell? ⟨b2, o2 + k * 6 + 1, none⟩ = some (.int .i64 l[k].ver) := (hb.cell (p := ⟨b2, o2 + k * 6 + 1, none⟩) hbb2).trans (hat2.nth 1 rfl)
      have q22 : wr.cell? ⟨b2, o2 + k * 6 + 2, none⟩ = some (.int .i64 l[k].kind) := (hb.cell (p := ⟨b2, o2 + k * 6 + 2, none⟩) hbb2).trans (hat2.nth 2 rfl)
      have q23 : wr.cell? ⟨b2, o2 + k * 6 + 3, none⟩ = some (.string l[k].name) := (hb.cell (p := ⟨b2, o2 + k * 6 + 3, none⟩) hbb2).trans (hat2.nth 3 rfl)
      have q24 : wr.cell? ⟨b2, o2 + k * 6 + 4, none⟩ = some (.string l[k].code) := (hb.cell (p := ⟨b2, o2 + k * 6 + 4, none⟩) hbb2).trans (hat2.nth 4 rfl)
      have q25 : wr.cell? ⟨b2, o2 + k * 6 + 5, none⟩ = some (.int .i64 l[k].n) := (hb.cell (p := ⟨b2, o2 + k * 6 + 5, none⟩) hbb2).trans (hat2.nth 5 rfl)
      clear hat1 hat2 hd hri1 hri2
      have hbr1 : b1 < wr.heap.size := Nat.lt_of_lt_of_le hbb1 hb.size
      have hbr2 : b2 < wr.heap.size := Nat.lt_of_lt_of_le hbb2 hb.size
      have hP : ∀ wx : World, Below wr.heap.size wr wx → Calls Tryd.prog 25 _ wx (TruePost wx) := fun wx hwx => hE _ (List.getElem_mem hlt) wx _ _ _ _ ((hri1'.same (fun x hx => hb.block x (hS1.lt x (hfi1 x hx))) hb.size).below hwx) ((hri2'.same (fun x hx => hb.block x (hS2.lt x (hfi2 x hx))) hb.size).below hwx)
      clear hri1' hri2' hE
      go_wp2_with fail
      go_region_held3 (fun w' => w'.cell? ⟨b1, o1 + k * 6, none⟩ = some (.int .i64 l[k].id) ∧ w'.cell? ⟨b1, o1 + k * 6 + 1, none⟩ = some (.int .i64 l[k].ver) ∧ w'.cell? ⟨b1, o1 + k * 6 + 2, none⟩ = some (.int .i64 l[k].kind) ∧ w'.cell? ⟨b1, o1 + k * 6 + 3, none⟩ = some (.string l[k].name) ∧ w'.cell? ⟨b1, o1 + k * 6 + 4, none⟩ = some (.string l[k].code) ∧ w'.cell? ⟨b1, o1 + k * 6 + 5, none⟩ = some (.int .i64 l[k].n) ∧ w'.cell? ⟨b2, o2 + k * 6, none⟩ = some (.int .i64 l[k].id) ∧ w'.cell? ⟨b2, o2 + k * 6 + 1, none⟩ = some (.int .i64 l[k].ver) ∧ w'.cell? ⟨b2, o2 + k * 6 + 2, none⟩ = some (.int .i64 l[k].kind) ∧ w'.cell? ⟨b2, o2 + k * 6 + 3, none⟩ = some (.string l[k].name) ∧ w'.cell? ⟨b2, o2 + k * 6 + 4, none⟩ = some (.string l[k].code) ∧ w'.cell? ⟨b2, o2 + k * 6 + 5, none⟩ = some (.int .i64 l[k].n)) (go_keep)
        ((go_at_call 25; refine (hP _ ?_).mono ?_; (exact (Below.refl _ _).drew); rintro e w1 ⟨rfl, hb1⟩; have hc1 : ∀ o, w1.cell? ⟨b1, o, none⟩ = wr.cell? ⟨b1, o, none⟩ := fun o => hb1.cell (p := ⟨b1, o, none⟩) hbr1; have hc2 : ∀ o, w1.cell? ⟨b2, o, none⟩ = wr.cell? ⟨b2, o, none⟩ := fun o => hb1.cell (p := ⟨b2, o, none⟩) hbr2))
      go_wp2_with fail
      go_roundw
      case rel => exact ⟨k + 1, by omega, by go_num, hb.drew.trans (hb1.mono hb.size)⟩
      case measure => simp [intOf]; omega
    · go_wp2_with fail
      go_ret
      exact ⟨rfl, hb⟩

theorem GCell.eqSaid (x : GCell) : EqSaid Tryd.prog 25 x.toD := GCell.eqSaid_of x 
theorem CellS_eqSaid (l : List GCell) : EqsSaid Tryd.prog 41 (l.map GCell.toD) := CellS_eqSaid_of l fun x _ => x.eqSaid

set_option maxHeartbeats 1000000 in
theorem GNb.eqSaid_of (x : GNb) (hE0 : EqsSaid Tryd.prog 41 (x.cells.map GCell.toD)) : EqSaid Tryd.prog 17 x.toD := by
  intro w f1 f2 cs1 cs2 hR hR2
  obtain ⟨vA0, fA0, rfl, rfl, hSA0⟩ := GNb.opened.1 hR
  obtain ⟨A0, cA0, rfl, hqa, hqb⟩ := hSA0.formT
  clear hqa hqb
  clear hR
  obtain ⟨vB0, fB0, rfl, rfl, hSB0⟩ := GNb.opened.1 hR2
  obtain ⟨B0, cB0, rfl, hqa, hqb⟩ := hSB0.formT
  clear hqa hqb
  clear hR2
  go_enter Tryd.func17, Tryd.ntmps17
  go_wp2_with fail
  have hP0 : ∀ wx : World, Below w.heap.size w wx → Calls Tryd.prog 41 _ wx (TruePost wx) := fun wx hwx => hE0 wx _ _ _ _ (hSA0.below hwx) (hSB0.below hwx)
  refine (hP0 _ ?_).mono ?_
  · exact ((Below.refl _ _).alloc (by simp) _).alloc (by simp; try omega) _
  rintro e w1 ⟨rfl, hb1⟩
  obtain ⟨hr10, hr11, hz1, G1⟩ := rows2 hb1
  clear hb1
  have k10 := hr10.cell
  have k11 := hr11.cell
  go_wp2_with fail
  go_ret
  exact ⟨rfl, G1⟩

theorem GNb.eqSaid (x : GNb) : EqSaid Tryd.prog 17 x.toD := GNb.eqSaid_of x (CellS_eqSaid _)
end Go.Proofs.YtdjcflnemnknaaaDoor
