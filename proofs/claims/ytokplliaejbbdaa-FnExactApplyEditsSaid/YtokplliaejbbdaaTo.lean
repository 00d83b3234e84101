/-
  The laws' functions that copy an argument (toCell, toCellS ..): each returns the same datum in fresh memory.
-/
import Derived.Test.YtokplliaejbbdaaTypes
import Derived.Test.YtokplliaejbbdaaProg
import Derived.KernelRfl
namespace Go.Proofs.Ytokplliaejbbdaa
open Go.RowKit
set_option linter.unusedSimpArgs false
set_option linter.unusedVariables false

set_option maxHeartbeats 1000000 in
theorem GCell.toSaid_of (x : GCell) : ToSaid Try.prog 38 x.toD := by
  intro w fp cs hR hwt
  rw [GCell.wt_eq] at hwt
  obtain ⟨rfl, rfl⟩ := GCell.opened.1 hR
  clear hR
  go_enter Try.func38, Try.ntmps38
  go_wp2_with fail
  refine bodyPost_ret (v := .agg #[.int .i64 x.id, .int .i64 x.ver, .int .i64 x.kind, .string x.name, .string x.code, .int .i64 x.n]) (by simp [results, Try.results38, go_sem]) rfl ⟨[], _, rfl, GCell.opened.2 ⟨rfl, rfl⟩, Free.nil, ?_⟩
  repeat (first | exact Below.refl _ _ | refine Below.setCell ?_ (by simp; try omega) _ | refine Below.alloc ?_ (by simp; try omega) _)

theorem info_toCell : (Try.prog.info? 37).map (fun i => (i.zero, i.size, i.bytes)) = some (some (.agg #[.int .i64 0, .int .i64 0, .int .i64 0, .string ⟨#[]⟩, .string ⟨#[]⟩, .int .i64 0]), 6, 64) := by kernel_rfl
set_option maxHeartbeats 1000000 in
theorem CellS_toSaid_of (l : List GCell) (hE : ∀ x ∈ l, ToSaid Try.prog 38 x.toD) : TosSaid Try.prog 37 (l.map GCell.toD) := by
  intro w fp v hS hwt
  obtain ⟨A, c, rfl, hl, hc⟩ := hS.formT
  rw [List.length_map] at hwt
  obtain ⟨i0, hi0, hz0, hz1, hz2⟩ := info_parts info_toCell
  have hmk : ∀ W : World, (Instr.makeSlice 31 (.int .i64 (l.length : Int)) (.int .i64 (l.length : Int))).run Try.prog W = .ok (.slice (some ⟨W.heap.size, 0, none⟩) l.length l.length) (W.alloc (.cells (madeCells (Value.cells (.agg #[.int .i64 0, .int .i64 0, .int .i64 0, .string ⟨#[]⟩, .string ⟨#[]⟩, .int .i64 0])) (l.length * 6)) 37)) := fun W => by
    have h := run_make (P := Try.prog) W 31 37 i0 _ Try.underlying31 hi0 hz0 .i64 .i64 (l.length : Int) (l.length : Int) (by omega) (Int.le_refl _) (by rw [hz2]; omega) (by omega)
    rw [hz1] at h
    simpa using h
  clear hl hc hi0 hz0 hz1 hz2
  go_enter Try.func37, Try.ntmps37
  go_wp2_with fail
  go_loopw [4] (fun iv wr => ∃ (k : Nat) (xs : List Value) (fs : List Nat), k ≤ l.length ∧ iv = .int .i64 k ∧ Row wr w.heap.size 37 xs ∧ xs.length = l.length * 6 ∧ Rs wr ((l.map GCell.toD).take k) fs (xs.take (k * 6)) ∧ Free wr (w.heap.size + 1) fs ∧ Below w.heap.size w wr) (fun iv _ => l.length - (intOf iv).toNat)
  case atStart =>
    refine ⟨0, _, [], by omega, rfl, Row.new _ _ _, by simp [madeCells], by simp [Rs], Free.nil, (Below.refl _ _).alloc (Nat.le_refl _) _⟩
  case round =>
    obtain ⟨k, xs, fs, hk, rfl, hrow, hxl, hrs, hfr, hb⟩ := hrel
    by_cases hlt : k < l.length
    · have hd : (l.map GCell.toD)[k]? = some (GCell.toD l[k]) := by rw [List.getElem?_map, List.getElem?_eq_getElem hlt]; rfl
      obtain ⟨b, o, fi, ci, rfl, hbb, hbf, hri, hfi, hat⟩ := hS.elem GCell.szs hd
      have hri' := hri
      have hxk := Lib.hid (show k * 6 + 6 ≤ xs.length by rw [hxl]; omega)
      have hxl' := Lib.hid hxl
      have hlw := hrow.lt
      obtain ⟨rfl, rfl⟩ := GCell.opened.1 hri
      have q0 := (hb.cell (p := ⟨b, o + k * 6, none⟩) hbb).trans (hat.head)
      have q1 := (hb.cell (p := ⟨b, o + k * 6 + 1, none⟩) hbb).trans (hat.nth 1 rfl)
      have q2 := (hb.cell (p := ⟨b, o + k * 6 + 2, none⟩) hbb).trans (hat.nth 2 rfl)
      have q3 := (hb.cell (p := ⟨b, o + k * 6 + 3, none⟩) hbb).trans (hat.nth 3 rfl)
      have q4 := (hb.cell (p := ⟨b, o + k * 6 + 4, none⟩) hbb).trans (hat.nth 4 rfl)
      have q5 := (hb.cell (p := ⟨b, o + k * 6 + 5, none⟩) hbb).trans (hat.nth 5 rfl)
      clear hat hd hxl
      go_wp2_with fail
      refine (hE _ (List.getElem_mem hlt) _ _ _ (hri'.same (fun x hx => hb.block x (hS.lt x (hfi x hx))) hb.size) (by have := D.wts_mem (List.mem_map_of_mem (f := GCell.toD) (List.getElem_mem hlt)); omega)).mono ?_
      rintro e w1 ⟨fn, cs, rfl, hT, hF, hb1⟩
      have hTL := hT.lt
      have hT' := hT
      obtain ⟨rfl, rfl⟩ := GCell.opened.1 hT
      have hrow1 := hrow.below hb1
      have G1 : Below w.heap.size w w1 := hb.trans (hb1.mono hb.size)
      have k0 := hrow1.at_ (i := k * 6) (by have := hxk.out; omega)
      have k1 := hrow1.at_ (i := k * 6 + 1) (by have := hxk.out; omega)
      have k2 := hrow1.at_ (i := k * 6 + 2) (by have := hxk.out; omega)
      have k3 := hrow1.at_ (i := k * 6 + 3) (by have := hxk.out; omega)
      have k4 := hrow1.at_ (i := k * 6 + 4) (by have := hxk.out; omega)
      have k5 := hrow1.at_ (i := k * 6 + 5) (by have := hxk.out; omega)
      have hn1 := hrow1.frozen
      go_wp2_with fail
      go_roundw
      case rel =>
        have hxk := hxk.out
        have hxl := hxl'.out
        clear k0 k1 k2 k3 k4 k5 hn1
        have hne : w.heap.size ∉ fs := fun h => by have := (hfr.2 _ h).1; omega
        have hnn : w.heap.size ∉ ([] : List Nat) := fun h => by have := (hF.2 _ h).1; omega
        have hr := (hrs.below hb1).setCells hne (k * 6) [.int .i64 l[k].id, .int .i64 l[k].ver, .int .i64 l[k].kind, .string l[k].name, .string l[k].code, .int .i64 l[k].n]
        have hr2 := hT'.setCells hnn (k * 6) [.int .i64 l[k].id, .int .i64 l[k].ver, .int .i64 l[k].kind, .string l[k].name, .string l[k].code, .int .i64 l[k].n]
        refine ⟨k + 1, sets xs (k * 6) [.int .i64 l[k].id, .int .i64 l[k].ver, .int .i64 l[k].kind, .string l[k].name, .string l[k].code, .int .i64 l[k].n], fs ++ ([] : List Nat), by omega, by go_num, hrow1.sets [.int .i64 l[k].id, .int .i64 l[k].ver, .int .i64 l[k].kind, .string l[k].name, .string l[k].code, .int .i64 l[k].n] (k * 6), by rw [sets_length]; exact hxl, ?_, ?_, ?_⟩
        · have e1 : (sets xs (k * 6) [.int .i64 l[k].id, .int .i64 l[k].ver, .int .i64 l[k].kind, .string l[k].name, .string l[k].code, .int .i64 l[k].n]).take (k * 6 + 6) = xs.take (k * 6) ++ [.int .i64 l[k].id, .int .i64 l[k].ver, .int .i64 l[k].kind, .string l[k].name, .string l[k].code, .int .i64 l[k].n] := sets_take [.int .i64 l[k].id, .int .i64 l[k].ver, .int .i64 l[k].kind, .string l[k].name, .string l[k].code, .int .i64 l[k].n] xs (k * 6) hxk
          rw [show (k + 1) * 6 = k * 6 + 6 by omega, e1, List.take_succ_eq_append_getElem (by simpa using hlt), List.getElem_map]
          exact Rs.append (Rs.one hr2) hr
        · exact Free.append (mid := wr.heap.size) ((hfr.below hrs.lt hb1).setCells hne (k * 6) [.int .i64 l[k].id, .int .i64 l[k].ver, .int .i64 l[k].kind, .string l[k].name, .string l[k].code, .int .i64 l[k].n]) hrs.lt (hF.setCells hnn (k * 6) [.int .i64 l[k].id, .int .i64 l[k].ver, .int .i64 l[k].kind, .string l[k].name, .string l[k].code, .int .i64 l[k].n]) (by omega)
        · exact setCells_below (Nat.le_refl _) [.int .i64 l[k].id, .int .i64 l[k].ver, .int .i64 l[k].kind, .string l[k].name, .string l[k].code, .int .i64 l[k].n] G1 (k * 6)
      case measure => simp [intOf]; omega
    · have hk' := Lib.hid (show k = l.length by omega)
      have hxl' := Lib.hid hxl
      clear hxl
      go_wp2_with fail
      go_ret
      have hxl := hxl'.out
      have hk := hk'.out
      subst hk
      rw [List.take_of_length_le (by simp), List.take_of_length_le (by omega)] at hrs
      exact ⟨_, _, rfl, Sl.of_row hrow hrs (by simp) (by unfold maxLen; omega), Free.cons_row hrow (Nat.le_refl _) hfr, hb⟩

theorem GCell.toSaid (x : GCell) : ToSaid Try.prog 38 x.toD := GCell.toSaid_of x 
theorem CellS_toSaid (l : List GCell) : TosSaid Try.prog 37 (l.map GCell.toD) := CellS_toSaid_of l fun x _ => x.toSaid

set_option maxHeartbeats 1000000 in
theorem GNb.toSaid_of (x : GNb) (hE0 : TosSaid Try.prog 37 (x.cells.map GCell.toD)) : ToSaid Try.prog 9 x.toD := by
  intro w fp cs hR hwt
  rw [GNb.wt_eq] at hwt
  obtain ⟨v0, f0, rfl, rfl, hS0⟩ := GNb.opened.1 hR
  obtain ⟨A0, c0, rfl, hq0a, hq0b⟩ := hS0.formT
  clear hq0a hq0b
  clear hR
  go_enter Try.func9, Try.ntmps9
  go_wp2_with fail
  have hP0 : ∀ wx : World, Below w.heap.size w wx → Calls Try.prog 37 _ wx (TosPost _ wx) := fun wx hwx => hE0 wx _ _ (hS0.below hwx) (by omega)
  refine (hP0 _ ?_).mono ?_
  · exact (((Below.refl _ _).alloc (by simp) _).alloc (by simp; try omega) _).alloc (by simp; try omega) _
  rintro e w1 ⟨g0, v, rfl, hT0, hF0, hb1⟩
  have hL0 := hT0.lt
  have hX0 := hF0.past (lo := w.heap.size + 1) (hi := w.heap.size + 3) (by simp)
  replace hF0 := hF0.mono (base' := w.heap.size) (by simp; omega)
  obtain ⟨B0, d0, rfl, hq0a, hq0b⟩ := hT0.formT
  clear hq0a hq0b
  obtain ⟨hr10, hr11, hr12, hz1, G1⟩ := rows3 hb1
  clear hb1
  have k10 := hr10.cell
  have k11 := hr11.cell
  have k12 := hr12.cell
  have n10 := hr10.frozen
  have n11 := hr11.frozen
  have n12 := hr12.frozen
  go_wp2_with fail
  have hend := (GNb.opened (w := w1) (x := x)).2 ⟨_, _, rfl, rfl, hT0⟩
  have hfree := (hF0.mono (base' := w.heap.size) (by omega))
  have hpast := hX0
  refine bodyPost_ret (v := .agg #[.slice B0 x.cells.length d0]) (by simp [results, Try.results9, go_sem, k10, k11, k12]) rfl (ToPost.fin (lo := w.heap.size + 1) (hi := w.heap.size + 3) (b := w1) ?_ hend hfree hpast G1 (by omega))
  repeat (first | (with_reducible exact Kept.refl _ _ _) | ((with_reducible refine Kept.setCell ?_ ?_ ?_ _); rotate_left; (simp; try omega); (simp; try omega)))

theorem GNb.toSaid (x : GNb) : ToSaid Try.prog 9 x.toD := GNb.toSaid_of x (CellS_toSaid _)
set_option maxHeartbeats 1000000 in
theorem GEdit.toSaid_of (x : GEdit) (hE0 : ToSaid Try.prog 38 x.cell.toD) : ToSaid Try.prog 10 x.toD := by
  intro w fp cs hR hwt
  rw [GEdit.wt_eq] at hwt
  obtain ⟨rfl, rfl⟩ := GEdit.opened.1 hR
  clear hR
  go_enter Try.func10, Try.ntmps10
  go_wp2_with fail
  have hP0 : ∀ wx : World, Below w.heap.size w wx → Calls Try.prog 38 _ wx (ToPost _ wx) := fun wx hwx => hE0 wx _ _ (GCell.opened.2 ⟨rfl, rfl⟩) (by omega)
  refine (hP0 _ ?_).mono ?_
  · exact (((Below.refl _ _).alloc (by simp) _).alloc (by simp; try omega) _).alloc (by simp; try omega) _
  rintro e w1 ⟨g0, cs, rfl, hT, hF0, hb1⟩
  have hL0 := hT.lt
  have hX0 := hF0.past (lo := w.heap.size + 1) (hi := w.heap.size + 3) (by simp)
  replace hF0 := hF0.mono (base' := w.heap.size) (by simp; omega)
  obtain ⟨rfl, rfl⟩ := GCell.opened.1 hT
  obtain ⟨hr10, hr11, hr12, hz1, G1⟩ := rows3 hb1
  clear hb1
  have k10 := hr10.cell
  have k11 := hr11.cell
  have k12 := hr12.cell
  have n10 := hr10.frozen
  have n11 := hr11.frozen
  have n12 := hr12.frozen
  go_wp2_with fail
  have hend := (GEdit.opened (w := w1) (x := x)).2 ⟨rfl, rfl⟩
  refine bodyPost_ret (v := .agg #[.int .i64 x.kind, .int .i64 x.pos, .int .i64 x.cell.id, .int .i64 x.cell.ver, .int .i64 x.cell.kind, .string x.cell.name, .string x.cell.code, .int .i64 x.cell.n]) (by simp [results, Try.results10, go_sem, k10, k11, k12]) rfl (ToPost.fin (lo := w.heap.size + 1) (hi := w.heap.size + 3) (b := w1) ?_ hend Free.nil past_nil G1 (by omega))
  repeat (first | (with_reducible exact Kept.refl _ _ _) | ((with_reducible refine Kept.setCell ?_ ?_ ?_ _); rotate_left; (simp; try omega); (simp; try omega)))

theorem info_toEdit : (Try.prog.info? 39).map (fun i => (i.zero, i.size, i.bytes)) = some (some (.agg #[.int .i64 0, .int .i64 0, .int .i64 0, .int .i64 0, .int .i64 0, .string ⟨#[]⟩, .string ⟨#[]⟩, .int .i64 0]), 8, 80) := by kernel_rfl
set_option maxHeartbeats 1000000 in
theorem EditS_toSaid_of (l : List GEdit) (hE : ∀ x ∈ l, ToSaid Try.prog 10 x.toD) : TosSaid Try.prog 20 (l.map GEdit.toD) := by
  intro w fp v hS hwt
  obtain ⟨A, c, rfl, hl, hc⟩ := hS.formT
  rw [List.length_map] at hwt
  obtain ⟨i0, hi0, hz0, hz1, hz2⟩ := info_parts info_toEdit
  have hmk : ∀ W : World, (Instr.makeSlice 52 (.int .i64 (l.length : Int)) (.int .i64 (l.length : Int))).run Try.prog W = .ok (.slice (some ⟨W.heap.size, 0, none⟩) l.length l.length) (W.alloc (.cells (madeCells (Value.cells (.agg #[.int .i64 0, .int .i64 0, .int .i64 0, .int .i64 0, .int .i64 0, .string ⟨#[]⟩, .string ⟨#[]⟩, .int .i64 0])) (l.length * 8)) 39)) := fun W => by
    have h := run_make (P := Try.prog) W 52 39 i0 _ Try.underlying52 hi0 hz0 .i64 .i64 (l.length : Int) (l.length : Int) (by omega) (Int.le_refl _) (by rw [hz2]; omega) (by omega)
    rw [hz1] at h
    simpa using h
  clear hl hc hi0 hz0 hz1 hz2
  go_enter Try.func20, Try.ntmps20
  go_wp2_with fail
  go_loopw [4] (fun iv wr => ∃ (k : Nat) (xs : List Value) (fs : List Nat), k ≤ l.length ∧ iv = .int .i64 k ∧ Row wr w.heap.size 39 xs ∧ xs.length = l.length * 8 ∧ Rs wr ((l.map GEdit.toD).take k) fs (xs.take (k * 8)) ∧ Free wr (w.heap.size + 1) fs ∧ Below w.heap.size w wr) (fun iv _ => l.length - (intOf iv).toNat)
  case atStart =>
    refine ⟨0, _, [], by omega, rfl, Row.new _ _ _, by simp [madeCells], by simp [Rs], Free.nil, (Below.refl _ _).alloc (Nat.le_refl _) _⟩
  case round =>
    obtain ⟨k, xs, fs, hk, rfl, hrow, hxl, hrs, hfr, hb⟩ := hrel
    by_cases hlt : k < l.length
    · have hd : (l.map GEdit.toD)[k]? = some (GEdit.toD l[k]) := by rw [List.getElem?_map, List.getElem?_eq_getElem hlt]; rfl
      obtain ⟨b, o, fi, ci, rfl, hbb, hbf, hri, hfi, hat⟩ := hS.elem GEdit.szs hd
      have hri' := hri
      have hxk := Lib.hid (show k * 8 + 8 ≤ xs.length by rw [hxl]; omega)
      have hxl' := Lib.hid hxl
      have hlw := hrow.lt
      obtain ⟨rfl, rfl⟩ := GEdit.opened.1 hri
      have q0 := (hb.cell (p := ⟨b, o + k * 8, none⟩) hbb).trans (hat.head)
      have q1 := (hb.cell (p := ⟨b, o + k * 8 + 1, none⟩) hbb).trans (hat.nth 1 rfl)
      have q2 := (hb.cell (p := ⟨b, o + k * 8 + 2, none⟩) hbb).trans (hat.nth 2 rfl)
      have q3 := (hb.cell (p := ⟨b, o + k * 8 + 3, none⟩) hbb).trans (hat.nth 3 rfl)
      have q4 := (hb.cell (p := ⟨b, o + k * 8 + 4, none⟩) hbb).trans (hat.nth 4 rfl)
      have q5 := (hb.cell (p := ⟨b, o + k * 8 + 5, none⟩) hbb).trans (hat.nth 5 rfl)
      have q6 := (hb.cell (p := ⟨b, o + k * 8 + 6, none⟩) hbb).trans (hat.nth 6 rfl)
      have q7 := (hb.cell (p := ⟨b, o + k * 8 + 7, none⟩) hbb).trans (hat.nth 7 rfl)
      clear hat hd hxl
      go_wp2_with fail
      refine (hE _ (List.getElem_mem hlt) _ _ _ (hri'.same (fun x hx => hb.block x (hS.lt x (hfi x hx))) hb.size) (by have := D.wts_mem (List.mem_map_of_mem (f := GEdit.toD) (List.getElem_mem hlt)); omega)).mono ?_
      rintro e w1 ⟨fn, cs, rfl, hT, hF, hb1⟩
      have hTL := hT.lt
      have hT' := hT
      obtain ⟨rfl, rfl⟩ := GEdit.opened.1 hT
      have hrow1 := hrow.below hb1
      have G1 : Below w.heap.size w w1 := hb.trans (hb1.mono hb.size)
      have k0 := hrow1.at_ (i := k * 8) (by have := hxk.out; omega)
      have k1 := hrow1.at_ (i := k * 8 + 1) (by have := hxk.out; omega)
      have k2 := hrow1.at_ (i := k * 8 + 2) (by have := hxk.out; omega)
      have k3 := hrow1.at_ (i := k * 8 + 3) (by have := hxk.out; omega)
      have k4 := hrow1.at_ (i := k * 8 + 4) (by have := hxk.out; omega)
      have k5 := hrow1.at_ (i := k * 8 + 5) (by have := hxk.out; omega)
      have k6 := hrow1.at_ (i := k * 8 + 6) (by have := hxk.out; omega)
      have k7 := hrow1.at_ (i := k * 8 + 7) (by have := hxk.out; omega)
      have hn1 := hrow1.frozen
      go_wp2_with fail
      go_roundw
      case rel =>
        have hxk := hxk.out
        have hxl := hxl'.out
        clear k0 k1 k2 k3 k4 k5 k6 k7 hn1
        have hne : w.heap.size ∉ fs := fun h => by have := (hfr.2 _ h).1; omega
        have hnn : w.heap.size ∉ ([] : List Nat) := fun h => by have := (hF.2 _ h).1; omega
        have hr := (hrs.below hb1).setCells hne (k * 8) [.int .i64 l[k].kind, .int .i64 l[k].pos, .int .i64 l[k].cell.id, .int .i64 l[k].cell.ver, .int .i64 l[k].cell.kind, .string l[k].cell.name, .string l[k].cell.code, .int .i64 l[k].cell.n]
        have hr2 := hT'.setCells hnn (k * 8) [.int .i64 l[k].kind, .int .i64 l[k].pos, .int .i64 l[k].cell.id, .int .i64 l[k].cell.ver, .int .i64 l[k].cell.kind, .string l[k].cell.name, .string l[k].cell.code, .int .i64 l[k].cell.n]
        refine ⟨k + 1, sets xs (k * 8) [.int .i64 l[k].kind, .int .i64 l[k].pos, .int .i64 l[k].cell.id, .int .i64 l[k].cell.ver, .int .i64 l[k].cell.kind, .string l[k].cell.name, .string l[k].cell.code, .int .i64 l[k].cell.n], fs ++ ([] : List Nat), by omega, by go_num, hrow1.sets [.int .i64 l[k].kind, .int .i64 l[k].pos, .int .i64 l[k].cell.id, .int .i64 l[k].cell.ver, .int .i64 l[k].cell.kind, .string l[k].cell.name, .string l[k].cell.code, .int .i64 l[k].cell.n] (k * 8), by rw [sets_length]; exact hxl, ?_, ?_, ?_⟩
        · have e1 : (sets xs (k * 8) [.int .i64 l[k].kind, .int .i64 l[k].pos, .int .i64 l[k].cell.id, .int .i64 l[k].cell.ver, .int .i64 l[k].cell.kind, .string l[k].cell.name, .string l[k].cell.code, .int .i64 l[k].cell.n]).take (k * 8 + 8) = xs.take (k * 8) ++ [.int .i64 l[k].kind, .int .i64 l[k].pos, .int .i64 l[k].cell.id, .int .i64 l[k].cell.ver, .int .i64 l[k].cell.kind, .string l[k].cell.name, .string l[k].cell.code, .int .i64 l[k].cell.n] := sets_take [.int .i64 l[k].kind, .int .i64 l[k].pos, .int .i64 l[k].cell.id, .int .i64 l[k].cell.ver, .int .i64 l[k].cell.kind, .string l[k].cell.name, .string l[k].cell.code, .int .i64 l[k].cell.n] xs (k * 8) hxk
          rw [show (k + 1) * 8 = k * 8 + 8 by omega, e1, List.take_succ_eq_append_getElem (by simpa using hlt), List.getElem_map]
          exact Rs.append (Rs.one hr2) hr
        · exact Free.append (mid := wr.heap.size) ((hfr.below hrs.lt hb1).setCells hne (k * 8) [.int .i64 l[k].kind, .int .i64 l[k].pos, .int .i64 l[k].cell.id, .int .i64 l[k].cell.ver, .int .i64 l[k].cell.kind, .string l[k].cell.name, .string l[k].cell.code, .int .i64 l[k].cell.n]) hrs.lt (hF.setCells hnn (k * 8) [.int .i64 l[k].kind, .int .i64 l[k].pos, .int .i64 l[k].cell.id, .int .i64 l[k].cell.ver, .int .i64 l[k].cell.kind, .string l[k].cell.name, .string l[k].cell.code, .int .i64 l[k].cell.n]) (by omega)
        · exact setCells_below (Nat.le_refl _) [.int .i64 l[k].kind, .int .i64 l[k].pos, .int .i64 l[k].cell.id, .int .i64 l[k].cell.ver, .int .i64 l[k].cell.kind, .string l[k].cell.name, .string l[k].cell.code, .int .i64 l[k].cell.n] G1 (k * 8)
      case measure => simp [intOf]; omega
    · have hk' := Lib.hid (show k = l.length by omega)
      have hxl' := Lib.hid hxl
      clear hxl
      go_wp2_with fail
      go_ret
      have hxl := hxl'.out
      have hk := hk'.out
      subst hk
      rw [List.take_of_length_le (by simp), List.take_of_length_le (by omega)] at hrs
      exact ⟨_, _, rfl, Sl.of_row hrow hrs (by simp) (by unfold maxLen; omega), Free.cons_row hrow (Nat.le_refl _) hfr, hb⟩

theorem GEdit.toSaid (x : GEdit) : ToSaid Try.prog 10 x.toD := GEdit.toSaid_of x (GCell.toSaid _)
theorem EditS_toSaid (l : List GEdit) : TosSaid Try.prog 20 (l.map GEdit.toD) := EditS_toSaid_of l fun x _ => x.toSaid

end Go.Proofs.Ytokplliaejbbdaa
