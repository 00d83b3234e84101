/-
  Texts joined: Marks.
-/
import Derived.Test.YtdjcflnemnknaaaDoorJA
namespace Go.Proofs.YtdjcflnemnknaaaDoor
open Go.RowKit
set_option linter.unusedSimpArgs false
set_option linter.unusedVariables false

theorem notin_nil {x : Nat} : x ∉ ([] : List Nat) := by simp
theorem notin_app {x : Nat} {a b : List Nat} (h : x ∉ a) (k : x ∉ b) : x ∉ a ++ b := fun hm => by
  rcases List.mem_append.1 hm with h' | h'
  · exact h h'
  · exact k h'

theorem GCell.cnt_eq (x : GCell) : x.toD.cnt = 6 := by
  simp only [GCell.toD_eq, D.cnt, D.cnts, li, ls]
  try omega
theorem GCell.mk_in {w : World} {x : GCell} {k : Int} {a0 a1 a2 a3 a4 a5 : Int} (e0 : a0 = k) (e1 : a1 = k + ((1 : Nat) : Int)) (e2 : a2 = k + ((1 : Nat) : Int) + ((1 : Nat) : Int)) (e3 : a3 = k + ((1 : Nat) : Int) + ((1 : Nat) : Int) + ((1 : Nat) : Int)) (e4 : a4 = k + ((1 : Nat) : Int) + ((1 : Nat) : Int) + ((1 : Nat) : Int) + ((1 : Nat) : Int)) (e5 : a5 = k + ((1 : Nat) : Int) + ((1 : Nat) : Int) + ((1 : Nat) : Int) + ((1 : Nat) : Int) + ((1 : Nat) : Int)) : R w (x.toD.mk k) ([]) [.int .i64 a0, .int .i64 a1, .int .i64 a2, .string (mtxt a3), .string (mtxt a4), .int .i64 a5] := by
  subst e0 e1 e2 e3 e4 e5
  simp only [GCell.toD_eq, D.mk, D.mks, D.cnt, D.cnts, mleaf, li, ls, R_agg, Rs_agg, Rs_leaf, Rs_sl, Rs_nil, List.cons_append, List.nil_append]
  exact ⟨_, rfl, ⟨_, rfl, ⟨_, rfl, ⟨_, rfl, ⟨_, rfl, ⟨_, rfl, ⟨by simp, rfl⟩⟩⟩⟩⟩⟩⟩
theorem GCell.mk_out {w : World} {x : GCell} {k : Int} {fp : List Nat} {cs : List Value} (h : R w (x.toD.mk k) fp cs) : ∃ (a0 a1 a2 a3 a4 a5 : Int), a0 = k ∧ a1 = k + ((1 : Nat) : Int) ∧ a2 = k + ((1 : Nat) : Int) + ((1 : Nat) : Int) ∧ a3 = k + ((1 : Nat) : Int) + ((1 : Nat) : Int) + ((1 : Nat) : Int) ∧ a4 = k + ((1 : Nat) : Int) + ((1 : Nat) : Int) + ((1 : Nat) : Int) + ((1 : Nat) : Int) ∧ a5 = k + ((1 : Nat) : Int) + ((1 : Nat) : Int) + ((1 : Nat) : Int) + ((1 : Nat) : Int) + ((1 : Nat) : Int) ∧ fp = [] ∧ cs = [.int .i64 a0, .int .i64 a1, .int .i64 a2, .string (mtxt a3), .string (mtxt a4), .int .i64 a5] := by
  simp only [GCell.toD_eq, D.mk, D.mks, D.cnt, D.cnts, mleaf, li, ls, R_agg, Rs_agg, Rs_leaf, Rs_sl, Rs_nil, List.cons_append, List.nil_append] at h
  obtain ⟨_, rfl, ⟨_, rfl, ⟨_, rfl, ⟨_, rfl, ⟨_, rfl, ⟨_, rfl, ⟨rfl, rfl⟩⟩⟩⟩⟩⟩⟩ := h
  exact ⟨_, _, _, _, _, _, rfl, rfl, rfl, rfl, rfl, rfl, rfl, rfl⟩

set_option maxRecDepth 20000 in
set_option maxHeartbeats 4000000 in
theorem CellS_mark_of (l : List GCell) : MarksSaid Tryd.prog 66 (l.map GCell.toD) := by
  intro w fp v k hS hF hk0 hk1
  obtain ⟨A, c, rfl, hl, hc⟩ := hS.formT
  have hm : l.length ≤ 9223372036854775807 := by unfold maxLen at hc; omega
  clear hl hc
  go_enter Tryd.func66, Tryd.ntmps66
  go_wp2_with fail
  go_loopw [1, 5] (fun kv iv wr => ∃ (i : Nat) (K : Int), i ≤ l.length ∧ iv = .int .i64 i ∧ kv = .int .i64 K ∧ K = k + D.cnts ((l.map GCell.toD).take i) ∧ Sl wr (part (l.map GCell.toD) k i) fp (.slice A l.length c) ∧ Touch fp w wr) (fun _ iv _ => l.length - (intOf iv).toNat)
  case atStart => exact ⟨0, k, by omega, rfl, rfl, by simp [D.cnts_nil], by rw [part_zero]; exact hS, Touch.refl _ _⟩
  case round =>
    obtain ⟨i, K, hi, rfl, rfl, hK, hSi, hT⟩ := hrel
    by_cases hlt : i < l.length
    · have hi' : i < (l.map GCell.toD).length := by rw [List.length_map]; exact hlt
      have hcn := D.cnts_take (l.map GCell.toD) hi'
      have hle := D.cnts_take_le (l.map GCell.toD) (i + 1)
      rw [List.getElem_map, GCell.cnt_eq] at hcn
      have hk2 : 0 ≤ K := by omega
      have hk3 : K + 6 ≤ 4611686018427387904 := by omega
      have hK' := Lib.hid hK
      have hcn' := Lib.hid hcn
      have hFr := hF.touch (R.lt hS) hT
      obtain ⟨b, o, fi, ci, rfl, hbb, hbf, hri, hfi, hbn, hfn, hat, hback⟩ := hSi.focus hF.1 (part_sz GCell.szs k i) (part_get (l.map GCell.toD) k hi')
      rw [List.getElem_map] at hri
      clear hK hcn hle
      obtain ⟨rfl, rfl⟩ := GCell.opened.1 hri
      have z0 : ∀ off, wr.frozen? ⟨b, off, none⟩ = false := fun off => (hFr.2 b hbf).2 off
      clear hri
      have hI0 : Inr b (o + i * 6) (o + i * 6 + 6) [] wr wr := Inr.refl _ _ _ _ _
      have hA0 := hat
      clear hat
      have q0 := hA0.head
      have q1 := hA0.nth 1 rfl
      have q2 := hA0.nth 2 rfl
      go_wp2_with fail
      refine (markText_any _ _ (by omega)).mono ?_
      rintro e w1 ⟨rfl, hb1⟩
      have hbW := (((hI0.setCell (off := o + i * 6) (by omega) (by omega) (.int .i64 (K))).setCell (off := o + i * 6 + 1) (by omega) (by omega) (.int .i64 (K + 1))).setCell (off := o + i * 6 + 2) (by omega) (by omega) (.int .i64 (K + 1 + 1)))
      have hI1 := ((((hI0.setCell (off := o + i * 6) (by omega) (by omega) (.int .i64 (K))).setCell (off := o + i * 6 + 1) (by omega) (by omega) (.int .i64 (K + 1))).setCell (off := o + i * 6 + 2) (by omega) (by omega) (.int .i64 (K + 1 + 1)))).below hbb hb1
      have hA1 := ((((hA0.set (j := 0) (by simp) (.int .i64 (K))).set (j := 1) (by simp) (.int .i64 (K + 1))).set (j := 2) (by simp) (.int .i64 (K + 1 + 1)))).below (Nat.lt_of_lt_of_le hbb hbW.size) hb1
      have z1 : ∀ off, w1.frozen? ⟨b, off, none⟩ = false := fun off => (hI1.froz b off hbb).trans (hFr.2 b hbf |>.2 off)
      clear hbW hb1 z0 hA0 hI0 q0 q1 q2
      have q3 := hA1.nth 3 rfl
      go_wp2_with fail
      refine (markText_any _ _ (by omega)).mono ?_
      rintro e w2 ⟨rfl, hb2⟩
      have hbW := (hI1.setCell (off := o + i * 6 + 3) (by omega) (by omega) (.string (mtxt (K + 1 + 1 + 1))))
      have hI2 := ((hI1.setCell (off := o + i * 6 + 3) (by omega) (by omega) (.string (mtxt (K + 1 + 1 + 1))))).below hbb hb2
      have hA2 := ((hA1.set (j := 3) (by simp) (.string (mtxt (K + 1 + 1 + 1))))).below (Nat.lt_of_lt_of_le hbb hbW.size) hb2
      have z2 : ∀ off, w2.frozen? ⟨b, off, none⟩ = false := fun off => (hI2.froz b off hbb).trans (hFr.2 b hbf |>.2 off)
      clear hbW hb2 z1 hA1 hI1 q3
      have q4 := hA2.nth 4 rfl
      have q5 := hA2.nth 5 rfl
      go_wp2_with fail
      have hIe := ((hI2.setCell (off := o + i * 6 + 4) (by omega) (by omega) (.string (mtxt (K + 1 + 1 + 1 + 1)))).setCell (off := o + i * 6 + 5) (by omega) (by omega) (.int .i64 (K + 1 + 1 + 1 + 1 + 1)))
      have hAe := ((hA2.set (j := 4) (by simp) (.string (mtxt (K + 1 + 1 + 1 + 1)))).set (j := 5) (by simp) (.int .i64 (K + 1 + 1 + 1 + 1 + 1)))
      have hIf := hIe
      go_roundw
      case rel =>
        refine ⟨i + 1, K + 1 + 1 + 1 + 1 + 1 + 1, by omega, by go_num, rfl, ?_, ?_, hT.trans (hIf.toTouch hbf hfi)⟩
        · rw [hcn'.out]; have := hK'.out; push_cast; omega
        · rw [← part_succ _ k hi', List.getElem_map]
          exact hback _ _ _ (by rw [D.mk_sz]; exact GCell.sz_eq _) (GCell.mk_in (by have := hK'.out; push_cast; omega) (by have := hK'.out; push_cast; omega) (by have := hK'.out; push_cast; omega) (by have := hK'.out; push_cast; omega) (by have := hK'.out; push_cast; omega) (by have := hK'.out; push_cast; omega)) hAe hIf
      case measure => (simp [intOf] <;> omega)
    · have hf := Lib.hid (show i = l.length by omega)
      have hK' := Lib.hid hK
      clear hK
      go_wp2_with fail
      go_ret
      have e1 := hf.out
      have e2 := hK'.out
      rw [List.take_of_length_le (by rw [List.length_map]; omega)] at e2
      rw [part_all _ _ (by rw [List.length_map]; omega)] at hSi
      exact ⟨ret_int e2, hSi, hT⟩

theorem CellS_mark (l : List GCell) : MarksSaid Tryd.prog 66 (l.map GCell.toD) := CellS_mark_of l 

theorem GNb.cnt_eq (x : GNb) : x.toD.cnt = 0 + D.cnts (x.cells.map GCell.toD) := by
  simp only [GNb.toD_eq, D.cnt, D.cnts, li, ls]
  try omega
theorem GNb.mk_in {w : World} {x : GNb} {k : Int} {a0 : Int} {f0 : List Nat} {v0 : Value} (e0 : a0 = k) (s0 : Sl w (D.mks (x.cells.map GCell.toD) a0) f0 v0) : R w (x.toD.mk k) (f0) [v0] := by
  subst e0
  simp only [GNb.toD_eq, D.mk, D.mks, D.cnt, D.cnts, mleaf, li, ls, R_agg, Rs_agg, Rs_leaf, Rs_sl, Rs_nil, List.cons_append, List.nil_append]
  exact ⟨_, _, _, _, (List.append_nil _).symm, rfl, s0, ⟨rfl, rfl⟩⟩
theorem GNb.mk_out {w : World} {x : GNb} {k : Int} {fp : List Nat} {cs : List Value} (h : R w (x.toD.mk k) fp cs) : ∃ (a0 : Int) (v0 : Value) (f0 : List Nat), a0 = k ∧ fp = f0 ∧ cs = [v0] ∧ Sl w (D.mks (x.cells.map GCell.toD) a0) f0 v0 := by
  simp only [GNb.toD_eq, D.mk, D.mks, D.cnt, D.cnts, mleaf, li, ls, R_agg, Rs_agg, Rs_leaf, Rs_sl, Rs_nil, List.cons_append, List.nil_append] at h
  obtain ⟨_, _, _, _, rfl, rfl, s0, ⟨rfl, rfl⟩⟩ := h
  exact ⟨_, _, _, rfl, by simp, rfl, s0⟩
theorem GNb.amk_in {w : World} {x : GNb} {k : Int} {a0 : Int} {f0 : List Nat} {v0 : Value} (e0 : a0 = k) (s0 : Sl w (D.mks (x.cells.map GCell.toD) a0) f0 v0) : R w (x.toD.amk k) (f0) [v0] := by
  subst e0
  simp only [GNb.toD_eq, D.amk, D.amks, D.acnt, D.acnts, li, ls, R_agg, Rs_agg, Rs_leaf, Rs_sl, Rs_nil, List.cons_append, List.nil_append]
  exact ⟨_, _, _, _, (List.append_nil _).symm, rfl, s0, ⟨rfl, rfl⟩⟩
theorem GNb.amk_out {w : World} {x : GNb} {k : Int} {fp : List Nat} {cs : List Value} (h : R w (x.toD.amk k) fp cs) : ∃ (a0 : Int) (v0 : Value) (f0 : List Nat), a0 = k ∧ fp = f0 ∧ cs = [v0] ∧ Sl w (D.mks (x.cells.map GCell.toD) a0) f0 v0 := by
  simp only [GNb.toD_eq, D.amk, D.amks, D.acnt, D.acnts, li, ls, R_agg, Rs_agg, Rs_leaf, Rs_sl, Rs_nil, List.cons_append, List.nil_append] at h
  obtain ⟨_, _, _, _, rfl, rfl, s0, ⟨rfl, rfl⟩⟩ := h
  exact ⟨_, _, _, rfl, by simp, rfl, s0⟩
theorem GNb.acnt_eq (x : GNb) : x.toD.acnt = D.cnts (x.cells.map GCell.toD) := by
  simp only [GNb.toD_eq, D.acnt, D.acnts, li, ls]
  try omega

set_option maxRecDepth 20000 in
set_option maxHeartbeats 4000000 in
theorem CellS_held_of (l : List GCell) : HeldsSaid Tryd.prog 67 (l.map GCell.toD) := by
  intro w fp v k hS hk0 hk1
  obtain ⟨A, c, rfl, hl, hc⟩ := hS.form
  rw [D.mks_length, List.length_map] at hl hS ⊢
  have hm : l.length ≤ 9223372036854775807 := by unfold maxLen at hc; omega
  clear hl hc
  go_enter Tryd.func67, Tryd.ntmps67
  go_wp2_with fail
  go_loopw [1, 5] (fun kv iv wr => ∃ (i : Nat) (K : Int), i ≤ l.length ∧ iv = .int .i64 i ∧ kv = .int .i64 K ∧ K = k + D.cnts ((l.map GCell.toD).take i) ∧ Below w.heap.size w wr) (fun _ iv _ => l.length - (intOf iv).toNat)
  case atStart => exact ⟨0, k, by omega, rfl, rfl, by simp [D.cnts_nil], Below.refl _ _⟩
  case round =>
    obtain ⟨i, K, hi, rfl, rfl, hK, hb⟩ := hrel
    by_cases hlt : i < l.length
    · have hi' : i < (l.map GCell.toD).length := by rw [List.length_map]; exact hlt
      have hcn := D.cnts_take (l.map GCell.toD) hi'
      have hle := D.cnts_take_le (l.map GCell.toD) (i + 1)
      rw [List.getElem_map, GCell.cnt_eq] at hcn
      have hk2 : 0 ≤ K := by omega
      have hk3 : K + 6 ≤ 4611686018427387904 := by omega
      have hK' := Lib.hid hK
      have hcn' := Lib.hid hcn
      obtain ⟨b, o, fi, ci, rfl, hbb, hbf, hri, hfi, hat⟩ := hS.elem (s := 6) (fun d hd => part_sz GCell.szs k (l.map GCell.toD).length d (by rw [part_all _ _ (Nat.le_refl _)]; exact hd)) (mks_get (l.map GCell.toD) k hi')
      rw [List.getElem_map] at hri
      clear hK hcn hle
      obtain ⟨a0, a1, a2, a3, a4, a5, e0, e1, e2, e3, e4, e5, rfl, rfl⟩ := GCell.mk_out hri
      have d0 : K = a0 := by have := hK'.out; omega
      have d1 : a1 = K + 1 := by have := hK'.out; push_cast at e1; omega
      have d2 : a2 = K + 1 + 1 := by have := hK'.out; push_cast at e2; omega
      have d3 : a3 = K + 1 + 1 + 1 := by have := hK'.out; push_cast at e3; omega
      have d4 : a4 = K + 1 + 1 + 1 + 1 := by have := hK'.out; push_cast at e4; omega
      have d5 : a5 = K + 1 + 1 + 1 + 1 + 1 := by have := hK'.out; push_cast at e5; omega
      clear e0 e1 e2 e3 e4 e5
      subst d0 d1 d2 d3 d4 d5
      clear hri
      have q0 : wr.cell? ⟨b, o + i * 6, none⟩ = some (.int .i64 (K)) := (hb.cell (p := ⟨b, o + i * 6, none⟩) hbb).trans (hat.head)
      have q1 : wr.cell? ⟨b, o + i * 6 + 1, none⟩ = some (.int .i64 (K + 1)) := (hb.cell (p := ⟨b, o + i * 6 + 1, none⟩) hbb).trans (hat.nth 1 rfl)
      have q2 : wr.cell? ⟨b, o + i * 6 + 2, none⟩ = some (.int .i64 (K + 1 + 1)) := (hb.cell (p := ⟨b, o + i * 6 + 2, none⟩) hbb).trans (hat.nth 2 rfl)
      have q3 : wr.cell? ⟨b, o + i * 6 + 3, none⟩ = some (.string (mtxt (K + 1 + 1 + 1))) := (hb.cell (p := ⟨b, o + i * 6 + 3, none⟩) hbb).trans (hat.nth 3 rfl)
      go_wp2_with fail
      have hbp : b < wr.heap.size := Nat.lt_of_lt_of_le hbb hb.size
      go_region_held3 (fun w' => w'.cell? ⟨b, o + i * 6 + 3, none⟩ = some (.string (mtxt (K + 1 + 1 + 1)))) (go_keep)
        ((go_at_call 95; refine (markText_any _ _ (by omega)).mono ?_; rintro e w1 ⟨rfl, hb1⟩; have L1 : Below wr.heap.size wr w1 := (Below.refl _ _).drew.trans hb1; have hc1 : ∀ off, w1.cell? ⟨b, off, none⟩ = wr.cell? ⟨b, off, none⟩ := fun off => L1.cell (p := ⟨b, off, none⟩) hbp))
      have G1 : Below w.heap.size w w1 := hb.trans (L1.mono hb.size)
      clear hb1 L1 hc1 hbp q0 q1 q2 q3
      have q4 : w1.cell? ⟨b, o + i * 6 + 4, none⟩ = some (.string (mtxt (K + 1 + 1 + 1 + 1))) := (G1.cell (p := ⟨b, o + i * 6 + 4, none⟩) hbb).trans (hat.nth 4 rfl)
      go_wp2_with fail
      have hbp : b < w1.heap.size := Nat.lt_of_lt_of_le hbb G1.size
      go_region_held3 (fun w' => w'.cell? ⟨b, o + i * 6 + 4, none⟩ = some (.string (mtxt (K + 1 + 1 + 1 + 1)))) (go_keep)
        ((go_at_call 95; refine (markText_any _ _ (by omega)).mono ?_; rintro e w2 ⟨rfl, hb2⟩; have L2 : Below w1.heap.size w1 w2 := (Below.refl _ _).drew.trans hb2; have hc2 : ∀ off, w2.cell? ⟨b, off, none⟩ = w1.cell? ⟨b, off, none⟩ := fun off => L2.cell (p := ⟨b, off, none⟩) hbp))
      have G2 : Below w.heap.size w w2 := G1.trans (L2.mono G1.size)
      clear hb2 L2 hc2 hbp q4
      have q5 : w2.cell? ⟨b, o + i * 6 + 5, none⟩ = some (.int .i64 (K + 1 + 1 + 1 + 1 + 1)) := (G2.cell (p := ⟨b, o + i * 6 + 5, none⟩) hbb).trans (hat.nth 5 rfl)
      go_wp2_with fail
      go_roundw
      case rel => exact ⟨i + 1, K + 1 + 1 + 1 + 1 + 1 + 1, by omega, by go_num, rfl, by rw [hcn'.out]; have := hK'.out; push_cast; omega, G2⟩
      case measure => (simp [intOf] <;> omega)
    · have hf := Lib.hid (show i = l.length by omega)
      have hK' := Lib.hid hK
      clear hK
      go_wp2_with fail
      go_ret
      have e1 := hf.out
      have e2 := hK'.out
      rw [List.take_of_length_le (by rw [List.length_map]; omega)] at e2
      exact ⟨ret_int e2, hb⟩

theorem CellS_held (l : List GCell) : HeldsSaid Tryd.prog 67 (l.map GCell.toD) := CellS_held_of l 

set_option maxHeartbeats 2000000 in
theorem GNb.mark_of (x : GNb) (hM0 : MarksSaid Tryd.prog 66 (x.cells.map GCell.toD)) : AMarkSaid Tryd.prog 30 x.toD := by
  intro w fp cs k hR hF hk0 hk1
  rw [GNb.acnt_eq] at hk1
  have hk2 : k + (D.cnts (x.cells.map GCell.toD) : Int) ≤ 4611686018427387904 := by push_cast at hk1; omega
  clear hk1
  obtain ⟨v0, fp, rfl, rfl, hV0⟩ := GNb.opened.1 hR
  obtain ⟨A0, c0, rfl, hqa, hqb⟩ := hV0.formT
  clear hqa hqb
  have hfn := hF.1
  have nd0 := hfn
  have Fr0 : Free w 0 fp := hF.sub nd0 (fun y hy => by first | exact hy | simp [hy])
  have lt0 : ∀ y ∈ fp, y < w.heap.size := R.lt hV0
  have hs0 : w.heap.size ∉ fp := fun hy => Nat.lt_irrefl _ (lt0 _ hy)
  clear hR
  go_enter Tryd.func30, Tryd.ntmps30
  go_wp2_with fail
  refine (hM0 _ _ _ _ (hV0.below ((Below.refl _ _).alloc (Nat.le_refl _) _)) (Fr0.below lt0 ((Below.refl _ _).alloc (Nat.le_refl _) _)) (by omega) (by first | omega | (push_cast; omega))).mono ?_
  rintro e w1 ⟨rfl, hS1, hb1⟩
  obtain ⟨r1, hz1⟩ : Row w1 w.heap.size _ _ ∧ w.heap.size + 1 ≤ w1.heap.size := ⟨(Row.new w _ _).touch hb1 hs0, Nat.le_trans (by simp) hb1.size⟩
  have T1 : Touch ([] ++ fp) w w1 := (Touch.of_below ((Below.refl _ _).alloc (Nat.le_refl _) _)).trans (hb1.mono fun y hy => List.mem_append_right _ hy)
  have kk1 := r1.cell
  clear hb1
  go_wp2_with fail
  go_ret
  refine ⟨ret_int (by have hq := GNb.acnt_eq x; omega), GNb.amk_in (by push_cast; first | rfl | omega) hS1, T1.mono (fun y hy => ?_)⟩
  simp only [List.mem_append, List.not_mem_nil, false_or] at hy ⊢
  exact hy

theorem GNb.mark (x : GNb) : AMarkSaid Tryd.prog 30 x.toD := GNb.mark_of x (CellS_mark _)

set_option maxHeartbeats 2000000 in
theorem GNb.held_of (x : GNb) (hM0 : HeldsSaid Tryd.prog 67 (x.cells.map GCell.toD)) : AHeldSaid Tryd.prog 31 x.toD := by
  intro w fp cs k hR hk0 hk1
  rw [GNb.acnt_eq] at hk1
  have hk2 : k + (D.cnts (x.cells.map GCell.toD) : Int) ≤ 4611686018427387904 := by push_cast at hk1; omega
  clear hk1
  obtain ⟨a0, v0, g0, e0, rfl, rfl, hV0⟩ := GNb.amk_out hR
  have d0 : k = a0 := by push_cast at e0; omega
  clear e0
  subst d0
  obtain ⟨A0, c0, rfl, hqa, hqb⟩ := hV0.form
  simp only [D.mks_length, List.length_map] at hqa hV0 hR ⊢
  clear hqa hqb
  clear hR
  go_enter Tryd.func31, Tryd.ntmps31
  go_wp2_with fail
  refine (hM0 _ _ _ _ (hV0.below ((Below.refl _ _).alloc (Nat.le_refl _) _)) (by omega) (by first | omega | (push_cast; omega))).mono ?_
  rintro e w1 ⟨rfl, hb1⟩
  obtain ⟨r1, hz1, G1⟩ := rows1 hb1
  have kk1 := r1.cell
  clear hb1
  go_wp2_with fail
  go_ret
  exact ⟨ret_int (by have hq := GNb.acnt_eq x; omega), G1⟩

theorem GNb.held (x : GNb) : AHeldSaid Tryd.prog 31 x.toD := GNb.held_of x (CellS_held _)

end Go.Proofs.YtdjcflnemnknaaaDoor
