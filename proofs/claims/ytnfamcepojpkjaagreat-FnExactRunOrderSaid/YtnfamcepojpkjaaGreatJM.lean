/-
  Texts joined: Marks.
-/
import Derived.Test.YtnfamcepojpkjaaGreatJA
namespace Go.Proofs.YtnfamcepojpkjaaGreat
open Go.RowKit
set_option linter.unusedSimpArgs false
set_option linter.unusedVariables false

theorem notin_nil {x : Nat} : x ∉ ([] : List Nat) := by simp
theorem notin_app {x : Nat} {a b : List Nat} (h : x ∉ a) (k : x ∉ b) : x ∉ a ++ b := fun hm => by
  rcases List.mem_append.1 hm with h' | h'
  · exact h h'
  · exact k h'

set_option maxRecDepth 20000 in
set_option maxHeartbeats 4000000 in
theorem IntS_mark_of (l : List Int) : MarksSaid Tryz.prog 11 (l.map li) := by
  intro w fp v k hS hF hk0 hk1
  obtain ⟨A, c, rfl, hl, hc⟩ := hS.formT
  have hm : l.length ≤ 9223372036854775807 := by unfold maxLen at hc; omega
  clear hl hc
  go_enter Tryz.func11, Tryz.ntmps11
  go_wp2_with fail
  go_loopw [1, 5] (fun kv iv wr => ∃ (i : Nat) (K : Int), i ≤ l.length ∧ iv = .int .i64 i ∧ kv = .int .i64 K ∧ K = k + D.cnts ((l.map li).take i) ∧ Sl wr (part (l.map li) k i) fp (.slice A l.length c) ∧ Touch fp w wr) (fun _ iv _ => l.length - (intOf iv).toNat)
  case atStart => exact ⟨0, k, by omega, rfl, rfl, by simp [D.cnts_nil], by rw [part_zero]; exact hS, Touch.refl _ _⟩
  case round =>
    obtain ⟨i, K, hi, rfl, rfl, hK, hSi, hT⟩ := hrel
    by_cases hlt : i < l.length
    · have hi' : i < (l.map li).length := by rw [List.length_map]; exact hlt
      have hcn := D.cnts_take (l.map li) hi'
      have hle := D.cnts_take_le (l.map li) (i + 1)
      have hc1 : ((l.map li)[i]).cnt = 1 := by rw [List.getElem_map]; rfl
      rw [hc1] at hcn
      have hk2 : 0 ≤ K := by omega
      have hk3 : K + 1 ≤ 4611686018427387904 := by omega
      have hK' := Lib.hid hK
      have hcn' := Lib.hid hcn
      have hFr := hF.touch (R.lt hS) hT
      obtain ⟨b, o, fi, ci, rfl, hbb, hbf, hri, hfi, hbn, hfn, hat, hback⟩ := hSi.focus hF.1 (part_sz li_szs k i) (part_get (l.map li) k hi')
      rw [List.getElem_map] at hri
      clear hK hcn hle
      obtain ⟨rfl, rfl⟩ := hri
      simp only [Nat.mul_one] at hat hback
      have z0 : ∀ off, wr.frozen? ⟨b, off, none⟩ = false := fun off => (hFr.2 b hbf).2 off
      have hI0 : Inr b (o + i) (o + i + 1) [] wr wr := Inr.refl _ _ _ _ _
      have hA0 := hat
      clear hat
      have q0 := hA0.head
      go_wp2_with fail
      have hIe := (hI0.setCell (off := o + i) (by omega) (by omega) (.int .i64 (K)))
      have hAe := (hA0.set (j := 0) (by simp) (.int .i64 (K)))
      have hIf := hIe
      go_roundw
      case rel =>
        refine ⟨i + 1, K + 1, by omega, by go_num, rfl, ?_, ?_, hT.trans (hIf.toTouch hbf hfi)⟩
        · rw [hcn'.out]; have := hK'.out; push_cast; omega
        · rw [← part_succ _ k hi', List.getElem_map]
          exact hback _ (.leaf (.int .i64 (k + D.cnts ((l.map li).take i)))) _ rfl ⟨rfl, rfl⟩ (by have e := hK'.out; subst e; exact hAe) hIf
      case measure => (simp [intOf] <;> omega)
    · have hf := Lib.hid (show i = l.length by omega)
      have hK' := Lib.hid hK
      clear hK
      go_wp2_with fail
      go_ret
      have e1 := hf.out
      have e2 := hK'.out
      rw [List.take_of_length_le (by rw [List.length_map]; omega)] at e2
      rw [part_all _ _ (by rw [List.length_map]; omega)] at hSi
      exact ⟨ret_int e2, hSi, hT⟩

theorem IntS_mark (l : List Int) : MarksSaid Tryz.prog 11 (l.map li) := IntS_mark_of l 

set_option maxRecDepth 20000 in
set_option maxHeartbeats 4000000 in
theorem StringS_mark_of (l : List ByteArray) : MarksSaid Tryz.prog 26 (l.map ls) := by
  intro w fp v k hS hF hk0 hk1
  obtain ⟨A, c, rfl, hl, hc⟩ := hS.formT
  have hm : l.length ≤ 9223372036854775807 := by unfold maxLen at hc; omega
  clear hl hc
  go_enter Tryz.func26, Tryz.ntmps26
  go_wp2_with fail
  go_loopw [1, 5] (fun kv iv wr => ∃ (i : Nat) (K : Int), i ≤ l.length ∧ iv = .int .i64 i ∧ kv = .int .i64 K ∧ K = k + D.cnts ((l.map ls).take i) ∧ Sl wr (part (l.map ls) k i) fp (.slice A l.length c) ∧ Touch fp w wr) (fun _ iv _ => l.length - (intOf iv).toNat)
  case atStart => exact ⟨0, k, by omega, rfl, rfl, by simp [D.cnts_nil], by rw [part_zero]; exact hS, Touch.refl _ _⟩
  case round =>
    obtain ⟨i, K, hi, rfl, rfl, hK, hSi, hT⟩ := hrel
    by_cases hlt : i < l.length
    · have hi' : i < (l.map ls).length := by rw [List.length_map]; exact hlt
      have hcn := D.cnts_take (l.map ls) hi'
      have hle := D.cnts_take_le (l.map ls) (i + 1)
      have hc1 : ((l.map ls)[i]).cnt = 1 := by rw [List.getElem_map]; rfl
      rw [hc1] at hcn
      have hk2 : 0 ≤ K := by omega
      have hk3 : K + 1 ≤ 4611686018427387904 := by omega
      have hK' := Lib.hid hK
      have hcn' := Lib.hid hcn
      have hFr := hF.touch (R.lt hS) hT
      obtain ⟨b, o, fi, ci, rfl, hbb, hbf, hri, hfi, hbn, hfn, hat, hback⟩ := hSi.focus hF.1 (part_sz ls_szs k i) (part_get (l.map ls) k hi')
      rw [List.getElem_map] at hri
      clear hK hcn hle
      obtain ⟨rfl, rfl⟩ := hri
      simp only [Nat.mul_one] at hat hback
      have z0 : ∀ off, wr.frozen? ⟨b, off, none⟩ = false := fun off => (hFr.2 b hbf).2 off
      have hI0 : Inr b (o + i) (o + i + 1) [] wr wr := Inr.refl _ _ _ _ _
      have hA0 := hat
      clear hat
      go_wp2_with fail
      refine (markText_any _ _ (by omega)).mono ?_
      rintro e w1 ⟨rfl, hb1⟩
      have hbW := hI0
      have hI1 := (hI0).below hbb hb1
      have hA1 := (hA0).below (Nat.lt_of_lt_of_le hbb hbW.size) hb1
      have z1 : ∀ off, w1.frozen? ⟨b, off, none⟩ = false := fun off => (hI1.froz b off hbb).trans (hFr.2 b hbf |>.2 off)
      clear hbW hb1 z0 hA0 hI0
      have q0 := hA1.head
      go_wp2_with fail
      have hIe := (hI1.setCell (off := o + i) (by omega) (by omega) (.string (mtxt (K))))
      have hAe := (hA1.set (j := 0) (by simp) (.string (mtxt (K))))
      have hIf := hIe
      go_roundw
      case rel =>
        refine ⟨i + 1, K + 1, by omega, by go_num, rfl, ?_, ?_, hT.trans (hIf.toTouch hbf hfi)⟩
        · rw [hcn'.out]; have := hK'.out; push_cast; omega
        · rw [← part_succ _ k hi', List.getElem_map]
          exact hback _ (.leaf (.string (mtxt (k + D.cnts ((l.map ls).take i))))) _ rfl ⟨rfl, rfl⟩ (by have e := hK'.out; subst e; exact hAe) hIf
      case measure => (simp [intOf] <;> omega)
    · have hf := Lib.hid (show i = l.length by omega)
      have hK' := Lib.hid hK
      clear hK
      go_wp2_with fail
      go_ret
      have e1 := hf.out
      have e2 := hK'.out
      rw [List.take_of_length_le (by rw [List.length_map]; omega)] at e2
      rw [part_all _ _ (by rw [List.length_map]; omega)] at hSi
      exact ⟨ret_int e2, hSi, hT⟩

theorem StringS_mark (l : List ByteArray) : MarksSaid Tryz.prog 26 (l.map ls) := StringS_mark_of l 

theorem GOrigin.cnt_eq (x : GOrigin) : x.toD.cnt = 2 := by
  simp only [GOrigin.toD_eq, D.cnt, D.cnts, li, ls]
  try omega
theorem GOrigin.mk_in {w : World} {x : GOrigin} {k : Int} {a0 a1 : Int} (e0 : a0 = k) (e1 : a1 = k + ((1 : Nat) : Int)) : R w (x.toD.mk k) ([]) [.int .i64 a0, .int .i64 a1] := by
  subst e0 e1
  simp only [GOrigin.toD_eq, D.mk, D.mks, D.cnt, D.cnts, mleaf, li, ls, R_agg, Rs_agg, Rs_leaf, Rs_sl, Rs_nil, List.cons_append, List.nil_append]
  exact ⟨_, rfl, ⟨_, rfl, ⟨by simp, rfl⟩⟩⟩
theorem GOrigin.mk_out {w : World} {x : GOrigin} {k : Int} {fp : List Nat} {cs : List Value} (h : R w (x.toD.mk k) fp cs) : ∃ (a0 a1 : Int), a0 = k ∧ a1 = k + ((1 : Nat) : Int) ∧ fp = [] ∧ cs = [.int .i64 a0, .int .i64 a1] := by
  simp only [GOrigin.toD_eq, D.mk, D.mks, D.cnt, D.cnts, mleaf, li, ls, R_agg, Rs_agg, Rs_leaf, Rs_sl, Rs_nil, List.cons_append, List.nil_append] at h
  obtain ⟨_, rfl, ⟨_, rfl, ⟨rfl, rfl⟩⟩⟩ := h
  exact ⟨_, _, rfl, rfl, rfl, rfl⟩

set_option maxRecDepth 20000 in
set_option maxHeartbeats 4000000 in
theorem OriginS_mark_of (l : List GOrigin) : MarksSaid Tryz.prog 41 (l.map GOrigin.toD) := by
  intro w fp v k hS hF hk0 hk1
  obtain ⟨A, c, rfl, hl, hc⟩ := hS.formT
  have hm : l.length ≤ 9223372036854775807 := by unfold maxLen at hc; omega
  clear hl hc
  go_enter Tryz.func41, Tryz.ntmps41
  go_wp2_with fail
  go_loopw [1, 5] (fun kv iv wr => ∃ (i : Nat) (K : Int), i ≤ l.length ∧ iv = .int .i64 i ∧ kv = .int .i64 K ∧ K = k + D.cnts ((l.map GOrigin.toD).take i) ∧ Sl wr (part (l.map GOrigin.toD) k i) fp (.slice A l.length c) ∧ Touch fp w wr) (fun _ iv _ => l.length - (intOf iv).toNat)
  case atStart => exact ⟨0, k, by omega, rfl, rfl, by simp [D.cnts_nil], by rw [part_zero]; exact hS, Touch.refl _ _⟩
  case round =>
    obtain ⟨i, K, hi, rfl, rfl, hK, hSi, hT⟩ := hrel
    by_cases hlt : i < l.length
    · have hi' : i < (l.map GOrigin.toD).length := by rw [List.length_map]; exact hlt
      have hcn := D.cnts_take (l.map GOrigin.toD) hi'
      have hle := D.cnts_take_le (l.map GOrigin.toD) (i + 1)
      rw [List.getElem_map, GOrigin.cnt_eq] at hcn
      have hk2 : 0 ≤ K := by omega
      have hk3 : K + 2 ≤ 4611686018427387904 := by omega
      have hK' := Lib.hid hK
      have hcn' := Lib.hid hcn
      have hFr := hF.touch (R.lt hS) hT
      obtain ⟨b, o, fi, ci, rfl, hbb, hbf, hri, hfi, hbn, hfn, hat, hback⟩ := hSi.focus hF.1 (part_sz GOrigin.szs k i) (part_get (l.map GOrigin.toD) k hi')
      rw [List.getElem_map] at hri
      clear hK hcn hle
      obtain ⟨rfl, rfl⟩ := GOrigin.opened.1 hri
      have z0 : ∀ off, wr.frozen? ⟨b, off, none⟩ = false := fun off => (hFr.2 b hbf).2 off
      clear hri
      have hI0 : Inr b (o + i * 2) (o + i * 2 + 2) [] wr wr := Inr.refl _ _ _ _ _
      have hA0 := hat
      clear hat
      have q0 := hA0.head
      have q1 := hA0.nth 1 rfl
      go_wp2_with fail
      have hIe := ((hI0.setCell (off := o + i * 2) (by omega) (by omega) (.int .i64 (K))).setCell (off := o + i * 2 + 1) (by omega) (by omega) (.int .i64 (K + 1)))
      have hAe := ((hA0.set (j := 0) (by simp) (.int .i64 (K))).set (j := 1) (by simp) (.int .i64 (K + 1)))
      have hIf := hIe
      go_roundw
      case rel =>
        refine ⟨i + 1, K + 1 + 1, by omega, by go_num, rfl, ?_, ?_, hT.trans (hIf.toTouch hbf hfi)⟩
        · rw [hcn'.out]; have := hK'.out; push_cast; omega
        · rw [← part_succ _ k hi', List.getElem_map]
          exact hback _ _ _ (by rw [D.mk_sz]; exact GOrigin.sz_eq _) (GOrigin.mk_in (by have := hK'.out; push_cast; omega) (by have := hK'.out; push_cast; omega)) hAe hIf
      case measure => (simp [intOf] <;> omega)
    · have hf := Lib.hid (show i = l.length by omega)
      have hK' := Lib.hid hK
      clear hK
      go_wp2_with fail
      go_ret
      have e1 := hf.out
      have e2 := hK'.out
      rw [List.take_of_length_le (by rw [List.length_map]; omega)] at e2
      rw [part_all _ _ (by rw [List.length_map]; omega)] at hSi
      exact ⟨ret_int e2, hSi, hT⟩

theorem OriginS_mark (l : List GOrigin) : MarksSaid Tryz.prog 41 (l.map GOrigin.toD) := OriginS_mark_of l 

theorem GRow.cnt_eq (x : GRow) : x.toD.cnt = 0 + D.cnts (x.cells.map li) + D.cnts (x.src.map GOrigin.toD) := by
  simp only [GRow.toD_eq, D.cnt, D.cnts, li, ls]
  try omega
theorem GRow.mk_in {w : World} {x : GRow} {k : Int} {a0 a1 : Int} {f0 f1 : List Nat} {v0 v1 : Value} (e0 : a0 = k) (e1 : a1 = k + ((D.cnts (x.cells.map li) : Nat) : Int)) (s0 : Sl w (D.mks (x.cells.map li) a0) f0 v0) (s1 : Sl w (D.mks (x.src.map GOrigin.toD) a1) f1 v1) : R w (x.toD.mk k) (f0 ++ (f1)) [v0, v1] := by
  subst e0 e1
  simp only [GRow.toD_eq, D.mk, D.mks, D.cnt, D.cnts, mleaf, li, ls, R_agg, Rs_agg, Rs_leaf, Rs_sl, Rs_nil, List.cons_append, List.nil_append]
  exact ⟨_, _, _, _, rfl, rfl, s0, ⟨_, _, _, _, (List.append_nil _).symm, rfl, s1, ⟨rfl, rfl⟩⟩⟩
theorem GRow.mk_out {w : World} {x : GRow} {k : Int} {fp : List Nat} {cs : List Value} (h : R w (x.toD.mk k) fp cs) : ∃ (a0 a1 : Int) (v0 v1 : Value) (f0 f1 : List Nat), a0 = k ∧ a1 = k + ((D.cnts (x.cells.map li) : Nat) : Int) ∧ fp = f0 ++ (f1) ∧ cs = [v0, v1] ∧ Sl w (D.mks (x.cells.map li) a0) f0 v0 ∧ Sl w (D.mks (x.src.map GOrigin.toD) a1) f1 v1 := by
  simp only [GRow.toD_eq, D.mk, D.mks, D.cnt, D.cnts, mleaf, li, ls, R_agg, Rs_agg, Rs_leaf, Rs_sl, Rs_nil, List.cons_append, List.nil_append] at h
  obtain ⟨_, _, _, _, rfl, rfl, s0, ⟨_, _, _, _, rfl, rfl, s1, ⟨rfl, rfl⟩⟩⟩ := h
  exact ⟨_, _, _, _, _, _, rfl, rfl, by simp, rfl, s0, s1⟩
theorem GRow.amk_in {w : World} {x : GRow} {k : Int} {a0 a1 : Int} {f0 f1 : List Nat} {v0 v1 : Value} (e0 : a0 = k) (e1 : a1 = k + ((D.cnts (x.cells.map li) : Nat) : Int)) (s0 : Sl w (D.mks (x.cells.map li) a0) f0 v0) (s1 : Sl w (D.mks (x.src.map GOrigin.toD) a1) f1 v1) : R w (x.toD.amk k) (f0 ++ (f1)) [v0, v1] := by
  subst e0 e1
  simp only [GRow.toD_eq, D.amk, D.amks, D.acnt, D.acnts, li, ls, R_agg, Rs_agg, Rs_leaf, Rs_sl, Rs_nil, List.cons_append, List.nil_append]
  exact ⟨_, _, _, _, rfl, rfl, s0, ⟨_, _, _, _, (List.append_nil _).symm, rfl, s1, ⟨rfl, rfl⟩⟩⟩
theorem GRow.amk_out {w : World} {x : GRow} {k : Int} {fp : List Nat} {cs : List Value} (h : R w (x.toD.amk k) fp cs) : ∃ (a0 a1 : Int) (v0 v1 : Value) (f0 f1 : List Nat), a0 = k ∧ a1 = k + ((D.cnts (x.cells.map li) : Nat) : Int) ∧ fp = f0 ++ (f1) ∧ cs = [v0, v1] ∧ Sl w (D.mks (x.cells.map li) a0) f0 v0 ∧ Sl w (D.mks (x.src.map GOrigin.toD) a1) f1 v1 := by
  simp only [GRow.toD_eq, D.amk, D.amks, D.acnt, D.acnts, li, ls, R_agg, Rs_agg, Rs_leaf, Rs_sl, Rs_nil, List.cons_append, List.nil_append] at h
  obtain ⟨_, _, _, _, rfl, rfl, s0, ⟨_, _, _, _, rfl, rfl, s1, ⟨rfl, rfl⟩⟩⟩ := h
  exact ⟨_, _, _, _, _, _, rfl, rfl, by simp, rfl, s0, s1⟩
theorem GRow.acnt_eq (x : GRow) : x.toD.acnt = D.cnts (x.cells.map li) + D.cnts (x.src.map GOrigin.toD) := by
  simp only [GRow.toD_eq, D.acnt, D.acnts, li, ls]
  try omega

set_option maxRecDepth 20000 in
set_option maxHeartbeats 4000000 in
theorem RowS_mark_of (l : List GRow) (hM0 : ∀ x ∈ l, MarksSaid Tryz.prog 11 (x.cells.map li)) (hM1 : ∀ x ∈ l, MarksSaid Tryz.prog 41 (x.src.map GOrigin.toD)) : MarksSaid Tryz.prog 27 (l.map GRow.toD) := by
  intro w fp v k hS hF hk0 hk1
  obtain ⟨A, c, rfl, hl, hc⟩ := hS.formT
  have hm : l.length ≤ 9223372036854775807 := by unfold maxLen at hc; omega
  clear hl hc
  go_enter Tryz.func27, Tryz.ntmps27
  go_wp2_with fail
  go_loopw [1, 5] (fun kv iv wr => ∃ (i : Nat) (K : Int), i ≤ l.length ∧ iv = .int .i64 i ∧ kv = .int .i64 K ∧ K = k + D.cnts ((l.map GRow.toD).take i) ∧ Sl wr (part (l.map GRow.toD) k i) fp (.slice A l.length c) ∧ Touch fp w wr) (fun _ iv _ => l.length - (intOf iv).toNat)
  case atStart => exact ⟨0, k, by omega, rfl, rfl, by simp [D.cnts_nil], by rw [part_zero]; exact hS, Touch.refl _ _⟩
  case round =>
    obtain ⟨i, K, hi, rfl, rfl, hK, hSi, hT⟩ := hrel
    by_cases hlt : i < l.length
    · have hi' : i < (l.map GRow.toD).length := by rw [List.length_map]; exact hlt
      have hcn := D.cnts_take (l.map GRow.toD) hi'
      have hle := D.cnts_take_le (l.map GRow.toD) (i + 1)
      rw [List.getElem_map, GRow.cnt_eq] at hcn
      have hk2 : 0 ≤ K := by omega
      have hk3 : K + 0 + (D.cnts (l[i].cells.map li) : Int) + (D.cnts (l[i].src.map GOrigin.toD) : Int) ≤ 4611686018427387904 := by omega
      have hK' := Lib.hid hK
      have hcn' := Lib.hid hcn
      have hFr := hF.touch (R.lt hS) hT
      obtain ⟨b, o, fi, ci, rfl, hbb, hbf, hri, hfi, hbn, hfn, hat, hback⟩ := hSi.focus hF.1 (part_sz GRow.szs k i) (part_get (l.map GRow.toD) k hi')
      rw [List.getElem_map] at hri
      clear hK hcn hle
      obtain ⟨v0, v1, g0, g1, rfl, rfl, hV0, hV1⟩ := GRow.opened.1 hri
      obtain ⟨A0, c0, rfl, hqa, hqb⟩ := hV0.formT
      clear hqa hqb
      obtain ⟨A1, c1, rfl, hqa, hqb⟩ := hV1.formT
      clear hqa hqb
      have nN1 := (List.nodup_append.1 hfn).2.1
      have nd0 := (List.nodup_append.1 hfn).1
      have D0_1 : ∀ x ∈ g1, x ∉ g0 := fun x hx hy => (List.nodup_append.1 hfn).2.2 x hy x (by simp [hx]) rfl
      have D1_0 : ∀ x ∈ g0, x ∉ g1 := fun x hx hy => D0_1 x hy hx
      have nd1 := nN1
      have bn0 : b ∉ g0 := fun hx => hbn (by first | exact hx | simp [hx])
      have Fr0 : Free wr 0 g0 := hFr.sub nd0 (fun x hx => hfi x (by first | exact hx | simp [hx]))
      have bn1 : b ∉ g1 := fun hx => hbn (by first | exact hx | simp [hx])
      have Fr1 : Free wr 0 g1 := hFr.sub nd1 (fun x hx => hfi x (by first | exact hx | simp [hx]))
      have z0 : ∀ off, wr.frozen? ⟨b, off, none⟩ = false := fun off => (hFr.2 b hbf).2 off
      clear hri
      have hI0 : Inr b (o + i * 2) (o + i * 2 + 2) [] wr wr := Inr.refl _ _ _ _ _
      have hA0 := hat
      clear hat
      have q0 := hA0.head
      go_wp2_with fail
      have hbW := hI0
      refine (hM0 _ (List.getElem_mem hlt) _ g0 _ _ (hV0.inr hbW bn0 (fun x hx => notin_nil)) (Fr0.inr (R.lt hV0) hbW) (by omega) (by omega)).mono ?_
      rintro e w1 ⟨rfl, hS0, hb1⟩
      have hI1 := ((hI0).mono (F' := [] ++ g0) (fun x hx => List.mem_append_left _ hx)).touch hbb hb1 (fun x hx => List.mem_append_right _ hx) bn0
      have hA1 := (hA0).touch (Nat.lt_of_lt_of_le hbb hbW.size) hb1 bn0
      have hbb1 : b < w1.heap.size := Nat.lt_of_lt_of_le hbb hI1.size
      have hJ0_1 : Inr b (o + i * 2) (o + i * 2 + 2) [] w1 w1 := Inr.refl _ _ _ _ _
      have z1 : ∀ off, w1.frozen? ⟨b, off, none⟩ = false := fun off => (hI1.froz b off hbb).trans (hFr.2 b hbf |>.2 off)
      clear hbW hb1 z0 hA0 hI0 q0
      have q1 := hA1.nth 1 rfl
      go_wp2_with fail
      have hbW := hI1
      refine (hM1 _ (List.getElem_mem hlt) _ g1 _ _ (hV1.inr hbW bn1 (fun x hx => notin_app (notin_nil) (D0_1 x hx))) (Fr1.inr (R.lt hV1) hbW) (by omega) (by omega)).mono ?_
      rintro e w2 ⟨rfl, hS1, hb2⟩
      have hI2 := ((hI1).mono (F' := ([] ++ g0) ++ g1) (fun x hx => List.mem_append_left _ hx)).touch hbb hb2 (fun x hx => List.mem_append_right _ hx) bn1
      have hJ0_2 := ((hJ0_1).mono (F' := [] ++ g1) (fun x hx => List.mem_append_left _ hx)).touch hbb1 hb2 (fun x hx => List.mem_append_right _ hx) bn1
      have hA2 := (hA1).touch (Nat.lt_of_lt_of_le hbb hbW.size) hb2 bn1
      have hbb2 : b < w2.heap.size := Nat.lt_of_lt_of_le hbb hI2.size
      have hJ1_2 : Inr b (o + i * 2) (o + i * 2 + 2) [] w2 w2 := Inr.refl _ _ _ _ _
      have z2 : ∀ off, w2.frozen? ⟨b, off, none⟩ = false := fun off => (hI2.froz b off hbb).trans (hFr.2 b hbf |>.2 off)
      clear hbW hb2 z1 hA1 hI1 hJ0_1 q1
      go_wp2_with fail
      have hIe := hI2
      have hAe := hA2
      have hSe0 := hS0.inr hJ0_2 bn0 (fun x hx => notin_app (notin_nil) (D1_0 x hx))
      have hSe1 := hS1.inr hJ1_2 bn1 (fun x hx => notin_nil)
      have hIf := hIe.mono (F' := g0 ++ (g1)) (fun x hx => by
        simp only [List.mem_append, List.not_mem_nil, false_or] at hx
        rcases hx with h | h <;> simp [h])
      go_roundw
      case rel =>
        refine ⟨i + 1, K + (D.cnts (l[i].cells.map li) : Int) + (D.cnts (l[i].src.map GOrigin.toD) : Int), by omega, by go_num, rfl, ?_, ?_, hT.trans (hIf.toTouch hbf hfi)⟩
        · rw [hcn'.out]; have := hK'.out; push_cast; omega
        · rw [← part_succ _ k hi', List.getElem_map]
          exact hback _ _ _ (by rw [D.mk_sz]; exact GRow.sz_eq _) (GRow.mk_in (by have := hK'.out; push_cast; omega) (by have := hK'.out; push_cast; omega) hSe0 hSe1) hAe hIf
      case measure => (simp [intOf] <;> omega)
    · have hf := Lib.hid (show i = l.length by omega)
      have hK' := Lib.hid hK
      clear hK
      go_wp2_with fail
      go_ret
      have e1 := hf.out
      have e2 := hK'.out
      rw [List.take_of_length_le (by rw [List.length_map]; omega)] at e2
      rw [part_all _ _ (by rw [List.length_map]; omega)] at hSi
      exact ⟨ret_int e2, hSi, hT⟩

theorem RowS_mark (l : List GRow) : MarksSaid Tryz.prog 27 (l.map GRow.toD) := RowS_mark_of l (fun y _ => IntS_mark _) (fun y _ => OriginS_mark _)

theorem GVal.cnt_eq (x : GVal) : x.toD.cnt = 4 + D.cnts (x.list.map GVal.toD) + D.cnts (x.cols.map ls) + D.cnts (x.rows.map GRow.toD) := by
  simp only [GVal.toD_eq, D.cnt, D.cnts, li, ls]
  try omega
theorem GVal.mk_in {w : World} {x : GVal} {k : Int} {a0 a1 a2 a3 a4 a5 a6 : Int} {f0 f1 f2 : List Nat} {v0 v1 v2 : Value} (e0 : a0 = k) (e1 : a1 = k + ((1 : Nat) : Int)) (e2 : a2 = k + ((1 : Nat) : Int) + ((1 : Nat) : Int)) (e3 : a3 = k + ((1 : Nat) : Int) + ((1 : Nat) : Int) + ((1 : Nat) : Int)) (e4 : a4 = k + ((1 : Nat) : Int) + ((1 : Nat) : Int) + ((1 : Nat) : Int) + ((1 : Nat) : Int)) (e5 : a5 = k + ((1 : Nat) : Int) + ((1 : Nat) : Int) + ((1 : Nat) : Int) + ((1 : Nat) : Int) + ((D.cnts (x.list.map GVal.toD) : Nat) : Int)) (e6 : a6 = k + ((1 : Nat) : Int) + ((1 : Nat) : Int) + ((1 : Nat) : Int) + ((1 : Nat) : Int) + ((D.cnts (x.list.map GVal.toD) : Nat) : Int) + ((D.cnts (x.cols.map ls) : Nat) : Int)) (s0 : Sl w (D.mks (x.list.map GVal.toD) a4) f0 v0) (s1 : Sl w (D.mks (x.cols.map ls) a5) f1 v1) (s2 : Sl w (D.mks (x.rows.map GRow.toD) a6) f2 v2) : R w (x.toD.mk k) (f0 ++ (f1 ++ (f2))) [.int .i64 a0, .int .i64 a1, .int .i64 a2, .string (mtxt a3), v0, v1, v2] := by
  subst e0 e1 e2 e3 e4 e5 e6
  simp only [GVal.toD_eq, D.mk, D.mks, D.cnt, D.cnts, mleaf, li, ls, R_agg, Rs_agg, Rs_leaf, Rs_sl, Rs_nil, List.cons_append, List.nil_append]
  exact ⟨_, rfl, ⟨_, rfl, ⟨_, rfl, ⟨_, rfl, ⟨_, _, _, _, rfl, rfl, s0, ⟨_, _, _, _, rfl, rfl, s1, ⟨_, _, _, _, (List.append_nil _).symm, rfl, s2, ⟨rfl, rfl⟩⟩⟩⟩⟩⟩⟩⟩
theorem GVal.mk_out {w : World} {x : GVal} {k : Int} {fp : List Nat} {cs : List Value} (h : R w (x.toD.mk k) fp cs) : ∃ (a0 a1 a2 a3 a4 a5 a6 : Int) (v0 v1 v2 : Value) (f0 f1 f2 : List Nat), a0 = k ∧ a1 = k + ((1 : Nat) : Int) ∧ a2 = k + ((1 : Nat) : Int) + ((1 : Nat) : Int) ∧ a3 = k + ((1 : Nat) : Int) + ((1 : Nat) : Int) + ((1 : Nat) : Int) ∧ a4 = k + ((1 : Nat) : Int) + ((1 : Nat) : Int) + ((1 : Nat) : Int) + ((1 : Nat) : Int) ∧ a5 = k + ((1 : Nat) : Int) + ((1 : Nat) : Int) + ((1 : Nat) : Int) + ((1 : Nat) : Int) + ((D.cnts (x.list.map GVal.toD) : Nat) : Int) ∧ a6 = k + ((1 : Nat) : Int) + ((1 : Nat) : Int) + ((1 : Nat) : Int) + ((1 : Nat) : Int) + ((D.cnts (x.list.map GVal.toD) : Nat) : Int) + ((D.cnts (x.cols.map ls) : Nat) : Int) ∧ fp = f0 ++ (f1 ++ (f2)) ∧ cs = [.int .i64 a0, .int .i64 a1, .int .i64 a2, .string (mtxt a3), v0, v1, v2] ∧ Sl w (D.mks (x.list.map GVal.toD) a4) f0 v0 ∧ Sl w (D.mks (x.cols.map ls) a5) f1 v1 ∧ Sl w (D.mks (x.rows.map GRow.toD) a6) f2 v2 := by
  simp only [GVal.toD_eq, D.mk, D.mks, D.cnt, D.cnts, mleaf, li, ls, R_agg, Rs_agg, Rs_leaf, Rs_sl, Rs_nil, List.cons_append, List.nil_append] at h
  obtain ⟨_, rfl, ⟨_, rfl, ⟨_, rfl, ⟨_, rfl, ⟨_, _, _, _, rfl, rfl, s0, ⟨_, _, _, _, rfl, rfl, s1, ⟨_, _, _, _, rfl, rfl, s2, ⟨rfl, rfl⟩⟩⟩⟩⟩⟩⟩⟩ := h
  exact ⟨_, _, _, _, _, _, _, _, _, _, _, _, _, rfl, rfl, rfl, rfl, rfl, rfl, rfl, by simp, rfl, s0, s1, s2⟩
theorem GVal.amk_in {w : World} {x : GVal} {k : Int} {a4 a5 a6 : Int} {f0 f1 f2 : List Nat} {v0 v1 v2 : Value} (e4 : a4 = k + ((0 : Nat) : Int) + ((0 : Nat) : Int) + ((0 : Nat) : Int) + ((0 : Nat) : Int)) (e5 : a5 = k + ((0 : Nat) : Int) + ((0 : Nat) : Int) + ((0 : Nat) : Int) + ((0 : Nat) : Int) + ((D.cnts (x.list.map GVal.toD) : Nat) : Int)) (e6 : a6 = k + ((0 : Nat) : Int) + ((0 : Nat) : Int) + ((0 : Nat) : Int) + ((0 : Nat) : Int) + ((D.cnts (x.list.map GVal.toD) : Nat) : Int) + ((D.cnts (x.cols.map ls) : Nat) : Int)) (s0 : Sl w (D.mks (x.list.map GVal.toD) a4) f0 v0) (s1 : Sl w (D.mks (x.cols.map ls) a5) f1 v1) (s2 : Sl w (D.mks (x.rows.map GRow.toD) a6) f2 v2) : R w (x.toD.amk k) (f0 ++ (f1 ++ (f2))) [.int .i64 x.kind, .int .i64 x.n, .int .i64 x.step, .string x.text, v0, v1, v2] := by
  subst e4 e5 e6
  simp only [GVal.toD_eq, D.amk, D.amks, D.acnt, D.acnts, li, ls, R_agg, Rs_agg, Rs_leaf, Rs_sl, Rs_nil, List.cons_append, List.nil_append]
  exact ⟨_, rfl, ⟨_, rfl, ⟨_, rfl, ⟨_, rfl, ⟨_, _, _, _, rfl, rfl, s0, ⟨_, _, _, _, rfl, rfl, s1, ⟨_, _, _, _, (List.append_nil _).symm, rfl, s2, ⟨rfl, rfl⟩⟩⟩⟩⟩⟩⟩⟩
theorem GVal.amk_out {w : World} {x : GVal} {k : Int} {fp : List Nat} {cs : List Value} (h : R w (x.toD.amk k) fp cs) : ∃ (a4 a5 a6 : Int) (v0 v1 v2 : Value) (f0 f1 f2 : List Nat), a4 = k + ((0 : Nat) : Int) + ((0 : Nat) : Int) + ((0 : Nat) : Int) + ((0 : Nat) : Int) ∧ a5 = k + ((0 : Nat) : Int) + ((0 : Nat) : Int) + ((0 : Nat) : Int) + ((0 : Nat) : Int) + ((D.cnts (x.list.map GVal.toD) : Nat) : Int) ∧ a6 = k + ((0 : Nat) : Int) + ((0 : Nat) : Int) + ((0 : Nat) : Int) + ((0 : Nat) : Int) + ((D.cnts (x.list.map GVal.toD) : Nat) : Int) + ((D.cnts (x.cols.map ls) : Nat) : Int) ∧ fp = f0 ++ (f1 ++ (f2)) ∧ cs = [.int .i64 x.kind, .int .i64 x.n, .int .i64 x.step, .string x.text, v0, v1, v2] ∧ Sl w (D.mks (x.list.map GVal.toD) a4) f0 v0 ∧ Sl w (D.mks (x.cols.map ls) a5) f1 v1 ∧ Sl w (D.mks (x.rows.map GRow.toD) a6) f2 v2 := by
  simp only [GVal.toD_eq, D.amk, D.amks, D.acnt, D.acnts, li, ls, R_agg, Rs_agg, Rs_leaf, Rs_sl, Rs_nil, List.cons_append, List.nil_append] at h
  obtain ⟨_, rfl, ⟨_, rfl, ⟨_, rfl, ⟨_, rfl, ⟨_, _, _, _, rfl, rfl, s0, ⟨_, _, _, _, rfl, rfl, s1, ⟨_, _, _, _, rfl, rfl, s2, ⟨rfl, rfl⟩⟩⟩⟩⟩⟩⟩⟩ := h
  exact ⟨_, _, _, _, _, _, _, _, _, rfl, rfl, rfl, by simp, rfl, s0, s1, s2⟩
theorem GVal.acnt_eq (x : GVal) : x.toD.acnt = D.cnts (x.list.map GVal.toD) + D.cnts (x.cols.map ls) + D.cnts (x.rows.map GRow.toD) := by
  simp only [GVal.toD_eq, D.acnt, D.acnts, li, ls]
  try omega

set_option maxRecDepth 20000 in
set_option maxHeartbeats 4000000 in
theorem ValueS_mark_of (l : List GVal) (hM0 : ∀ x ∈ l, MarksSaid Tryz.prog 25 (x.list.map GVal.toD)) (hM1 : ∀ x ∈ l, MarksSaid Tryz.prog 26 (x.cols.map ls)) (hM2 : ∀ x ∈ l, MarksSaid Tryz.prog 27 (x.rows.map GRow.toD)) : MarksSaid Tryz.prog 25 (l.map GVal.toD) := by
  intro w fp v k hS hF hk0 hk1
  obtain ⟨A, c, rfl, hl, hc⟩ := hS.formT
  have hm : l.length ≤ 9223372036854775807 := by unfold maxLen at hc; omega
  clear hl hc
  go_enter Tryz.func25, Tryz.ntmps25
  go_wp2_with fail
  go_loopw [1, 5] (fun kv iv wr => ∃ (i : Nat) (K : Int), i ≤ l.length ∧ iv = .int .i64 i ∧ kv = .int .i64 K ∧ K = k + D.cnts ((l.map GVal.toD).take i) ∧ Sl wr (part (l.map GVal.toD) k i) fp (.slice A l.length c) ∧ Touch fp w wr) (fun _ iv _ => l.length - (intOf iv).toNat)
  case atStart => exact ⟨0, k, by omega, rfl, rfl, by simp [D.cnts_nil], by rw [part_zero]; exact hS, Touch.refl _ _⟩
  case round =>
    obtain ⟨i, K, hi, rfl, rfl, hK, hSi, hT⟩ := hrel
    by_cases hlt : i < l.length
    · have hi' : i < (l.map GVal.toD).length := by rw [List.length_map]; exact hlt
      have hcn := D.cnts_take (l.map GVal.toD) hi'
      have hle := D.cnts_take_le (l.map GVal.toD) (i + 1)
      rw [List.getElem_map, GVal.cnt_eq] at hcn
      have hk2 : 0 ≤ K := by omega
      have hk3 : K + 4 + (D.cnts (l[i].list.map GVal.toD) : Int) + (D.cnts (l[i].cols.map ls) : Int) + (D.cnts (l[i].rows.map GRow.toD) : Int) ≤ 4611686018427387904 := by omega
      have hK' := Lib.hid hK
      have hcn' := Lib.hid hcn
      have hFr := hF.touch (R.lt hS) hT
      obtain ⟨b, o, fi, ci, rfl, hbb, hbf, hri, hfi, hbn, hfn, hat, hback⟩ := hSi.focus hF.1 (part_sz GVal.szs k i) (part_get (l.map GVal.toD) k hi')
      rw [List.getElem_map] at hri
      clear hK hcn hle
      obtain ⟨v0, v1, v2, g0, g1, g2, rfl, rfl, hV0, hV1, hV2⟩ := GVal.opened.1 hri
      obtain ⟨A0, c0, rfl, hqa, hqb⟩ := hV0.formT
      clear hqa hqb
      obtain ⟨A1, c1, rfl, hqa, hqb⟩ := hV1.formT
      clear hqa hqb
      obtain ⟨A2, c2, rfl, hqa, hqb⟩ := hV2.formT
      clear hqa hqb
      have nN1 := (List.nodup_append.1 hfn).2.1
      have nd0 := (List.nodup_append.1 hfn).1
      have D0_1 : ∀ x ∈ g1, x ∉ g0 := fun x hx hy => (List.nodup_append.1 hfn).2.2 x hy x (by simp [hx]) rfl
      have D1_0 : ∀ x ∈ g0, x ∉ g1 := fun x hx hy => D0_1 x hy hx
      have D0_2 : ∀ x ∈ g2, x ∉ g0 := fun x hx hy => (List.nodup_append.1 hfn).2.2 x hy x (by simp [hx]) rfl
      have D2_0 : ∀ x ∈ g0, x ∉ g2 := fun x hx hy => D0_2 x hy hx
      have nN2 := (List.nodup_append.1 nN1).2.1
      have nd1 := (List.nodup_append.1 nN1).1
      have D1_2 : ∀ x ∈ g2, x ∉ g1 := fun x hx hy => (List.nodup_append.1 nN1).2.2 x hy x (by simp [hx]) rfl
      have D2_1 : ∀ x ∈ g1, x ∉ g2 := fun x hx hy => D1_2 x hy hx
      have nd2 := nN2
      have bn0 : b ∉ g0 := fun hx => hbn (by first | exact hx | simp [hx])
      have Fr0 : Free wr 0 g0 := hFr.sub nd0 (fun x hx => hfi x (by first | exact hx | simp [hx]))
      have bn1 : b ∉ g1 := fun hx => hbn (by first | exact hx | simp [hx])
      have Fr1 : Free wr 0 g1 := hFr.sub nd1 (fun x hx => hfi x (by first | exact hx | simp [hx]))
      have bn2 : b ∉ g2 := fun hx => hbn (by first | exact hx | simp [hx])
      have Fr2 : Free wr 0 g2 := hFr.sub nd2 (fun x hx => hfi x (by first | exact hx | simp [hx]))
      have z0 : ∀ off, wr.frozen? ⟨b, off, none⟩ = false := fun off => (hFr.2 b hbf).2 off
      clear hri
      have hI0 : Inr b (o + i * 7) (o + i * 7 + 7) [] wr wr := Inr.refl _ _ _ _ _
      have hA0 := hat
      clear hat
      have q0 := hA0.head
      have q1 := hA0.nth 1 rfl
      have q2 := hA0.nth 2 rfl
      go_wp2_with fail
      refine (markText_any _ _ (by omega)).mono ?_
      rintro e w1 ⟨rfl, hb1⟩
      have hbW := (((hI0.setCell (off := o + i * 7) (by omega) (by omega) (.int .i64 (K))).setCell (off := o + i * 7 + 1) (by omega) (by omega) (.int .i64 (K + 1))).setCell (off := o + i * 7 + 2) (by omega) (by omega) (.int .i64 (K + 1 + 1)))
      have hI1 := ((((hI0.setCell (off := o + i * 7) (by omega) (by omega) (.int .i64 (K))).setCell (off := o + i * 7 + 1) (by omega) (by omega) (.int .i64 (K + 1))).setCell (off := o + i * 7 + 2) (by omega) (by omega) (.int .i64 (K + 1 + 1)))).below hbb hb1
      have hA1 := ((((hA0.set (j := 0) (by simp) (.int .i64 (K))).set (j := 1) (by simp) (.int .i64 (K + 1))).set (j := 2) (by simp) (.int .i64 (K + 1 + 1)))).below (Nat.lt_of_lt_of_le hbb hbW.size) hb1
      have z1 : ∀ off, w1.frozen? ⟨b, off, none⟩ = false := fun off => (hI1.froz b off hbb).trans (hFr.2 b hbf |>.2 off)
      clear hbW hb1 z0 hA0 hI0 q0 q1 q2
      have q3 := hA1.nth 3 rfl
      have q4 := hA1.nth 4 rfl
      go_wp2_with fail
      have hbW := (hI1.setCell (off := o + i * 7 + 3) (by omega) (by omega) (.string (mtxt (K + 1 + 1 + 1))))
      refine (hM0 _ (List.getElem_mem hlt) _ g0 _ _ (hV0.inr hbW bn0 (fun x hx => notin_nil)) (Fr0.inr (R.lt hV0) hbW) (by omega) (by omega)).mono ?_
      rintro e w2 ⟨rfl, hS0, hb2⟩
      have hI2 := (((hI1.setCell (off := o + i * 7 + 3) (by omega) (by omega) (.string (mtxt (K + 1 + 1 + 1))))).mono (F' := [] ++ g0) (fun x hx => List.mem_append_left _ hx)).touch hbb hb2 (fun x hx => List.mem_append_right _ hx) bn0
      have hA2 := ((hA1.set (j := 3) (by simp) (.string (mtxt (K + 1 + 1 + 1))))).touch (Nat.lt_of_lt_of_le hbb hbW.size) hb2 bn0
      have hbb2 : b < w2.heap.size := Nat.lt_of_lt_of_le hbb hI2.size
      have hJ0_2 : Inr b (o + i * 7) (o + i * 7 + 7) [] w2 w2 := Inr.refl _ _ _ _ _
      have z2 : ∀ off, w2.frozen? ⟨b, off, none⟩ = false := fun off => (hI2.froz b off hbb).trans (hFr.2 b hbf |>.2 off)
      clear hbW hb2 z1 hA1 hI1 q3 q4
      have q5 := hA2.nth 5 rfl
      go_wp2_with fail
      have hbW := hI2
      refine (hM1 _ (List.getElem_mem hlt) _ g1 _ _ (hV1.inr hbW bn1 (fun x hx => notin_app (notin_nil) (D0_1 x hx))) (Fr1.inr (R.lt hV1) hbW) (by omega) (by omega)).mono ?_
      rintro e w3 ⟨rfl, hS1, hb3⟩
      have hI3 := ((hI2).mono (F' := ([] ++ g0) ++ g1) (fun x hx => List.mem_append_left _ hx)).touch hbb hb3 (fun x hx => List.mem_append_right _ hx) bn1
      have hJ0_3 := ((hJ0_2).mono (F' := [] ++ g1) (fun x hx => List.mem_append_left _ hx)).touch hbb2 hb3 (fun x hx => List.mem_append_right _ hx) bn1
      have hA3 := (hA2).touch (Nat.lt_of_lt_of_le hbb hbW.size) hb3 bn1
      have hbb3 : b < w3.heap.size := Nat.lt_of_lt_of_le hbb hI3.size
      have hJ1_3 : Inr b (o + i * 7) (o + i * 7 + 7) [] w3 w3 := Inr.refl _ _ _ _ _
      have z3 : ∀ off, w3.frozen? ⟨b, off, none⟩ = false := fun off => (hI3.froz b off hbb).trans (hFr.2 b hbf |>.2 off)
      clear hbW hb3 z2 hA2 hI2 hJ0_2 q5
      have q6 := hA3.nth 6 rfl
      go_wp2_with fail
      have hbW := hI3
      refine (hM2 _ (List.getElem_mem hlt) _ g2 _ _ (hV2.inr hbW bn2 (fun x hx => notin_app (notin_app (notin_nil) (D0_2 x hx)) (D1_2 x hx))) (Fr2.inr (R.lt hV2) hbW) (by omega) (by omega)).mono ?_
      rintro e w4 ⟨rfl, hS2, hb4⟩
      have hI4 := ((hI3).mono (F' := (([] ++ g0) ++ g1) ++ g2) (fun x hx => List.mem_append_left _ hx)).touch hbb hb4 (fun x hx => List.mem_append_right _ hx) bn2
      have hJ0_4 := ((hJ0_3).mono (F' := ([] ++ g1) ++ g2) (fun x hx => List.mem_append_left _ hx)).touch hbb2 hb4 (fun x hx => List.mem_append_right _ hx) bn2
      have hJ1_4 := ((hJ1_3).mono (F' := [] ++ g2) (fun x hx => List.mem_append_left _ hx)).touch hbb3 hb4 (fun x hx => List.mem_append_right _ hx) bn2
      have hA4 := (hA3).touch (Nat.lt_of_lt_of_le hbb hbW.size) hb4 bn2
      have hbb4 : b < w4.heap.size := Nat.lt_of_lt_of_le hbb hI4.size
      have hJ2_4 : Inr b (o + i * 7) (o + i * 7 + 7) [] w4 w4 := Inr.refl _ _ _ _ _
      have z4 : ∀ off, w4.frozen? ⟨b, off, none⟩ = false := fun off => (hI4.froz b off hbb).trans (hFr.2 b hbf |>.2 off)
      clear hbW hb4 z3 hA3 hI3 hJ0_3 hJ1_3 q6
      go_wp2_with fail
      have hIe := hI4
      have hAe := hA4
      have hSe0 := hS0.inr hJ0_4 bn0 (fun x hx => notin_app (notin_app (notin_nil) (D1_0 x hx)) (D2_0 x hx))
      have hSe1 := hS1.inr hJ1_4 bn1 (fun x hx => notin_app (notin_nil) (D2_1 x hx))
      have hSe2 := hS2.inr hJ2_4 bn2 (fun x hx => notin_nil)
      have hIf := hIe.mono (F' := g0 ++ (g1 ++ (g2))) (fun x hx => by
        simp only [List.mem_append, List.not_mem_nil, false_or] at hx
        rcases hx with (h | h) | h <;> simp [h])
      go_roundw
      case rel =>
        refine ⟨i + 1, K + 1 + 1 + 1 + 1 + (D.cnts (l[i].list.map GVal.toD) : Int) + (D.cnts (l[i].cols.map ls) : Int) + (D.cnts (l[i].rows.map GRow.toD) : Int), by omega, by go_num, rfl, ?_, ?_, hT.trans (hIf.toTouch hbf hfi)⟩
        · rw [hcn'.out]; have := hK'.out; push_cast; omega
        · rw [← part_succ _ k hi', List.getElem_map]
          exact hback _ _ _ (by rw [D.mk_sz]; exact GVal.sz_eq _) (GVal.mk_in (by have := hK'.out; push_cast; omega) (by have := hK'.out; push_cast; omega) (by have := hK'.out; push_cast; omega) (by have := hK'.out; push_cast; omega) (by have := hK'.out; push_cast; omega) (by have := hK'.out; push_cast; omega) (by have := hK'.out; push_cast; omega) hSe0 hSe1 hSe2) hAe hIf
      case measure => (simp [intOf] <;> omega)
    · have hf := Lib.hid (show i = l.length by omega)
      have hK' := Lib.hid hK
      clear hK
      go_wp2_with fail
      go_ret
      have e1 := hf.out
      have e2 := hK'.out
      rw [List.take_of_length_le (by rw [List.length_map]; omega)] at e2
      rw [part_all _ _ (by rw [List.length_map]; omega)] at hSi
      exact ⟨ret_int e2, hSi, hT⟩

theorem GVal.mark_sub : ∀ (n : Nat) (x : GVal), SizeOf.sizeOf x ≤ n → MarksSaid Tryz.prog 25 (x.list.map GVal.toD)
  | 0, x, h => by cases x; simp at h
  | n + 1, x, h => ValueS_mark_of _ (fun y hy => GVal.mark_sub n y (by have := GVal.lt_of_mem hy; omega)) (fun y _ => StringS_mark _) (fun y _ => RowS_mark _)
theorem ValueS_mark (l : List GVal) : MarksSaid Tryz.prog 25 (l.map GVal.toD) := ValueS_mark_of l (fun y _ => GVal.mark_sub _ y (Nat.le_refl _)) (fun y _ => StringS_mark _) (fun y _ => RowS_mark _)

theorem GExpr.cnt_eq (x : GExpr) : x.toD.cnt = 3 + D.cnts (x.args.map GExpr.toD) := by
  simp only [GExpr.toD_eq, D.cnt, D.cnts, li, ls]
  try omega
theorem GExpr.mk_in {w : World} {x : GExpr} {k : Int} {a0 a1 a2 a3 : Int} {f0 : List Nat} {v0 : Value} (e0 : a0 = k) (e1 : a1 = k + ((1 : Nat) : Int)) (e2 : a2 = k + ((1 : Nat) : Int) + ((1 : Nat) : Int)) (e3 : a3 = k + ((1 : Nat) : Int) + ((1 : Nat) : Int) + ((1 : Nat) : Int)) (s0 : Sl w (D.mks (x.args.map GExpr.toD) a3) f0 v0) : R w (x.toD.mk k) (f0) [.int .i64 a0, .int .i64 a1, .string (mtxt a2), v0] := by
  subst e0 e1 e2 e3
  simp only [GExpr.toD_eq, D.mk, D.mks, D.cnt, D.cnts, mleaf, li, ls, R_agg, Rs_agg, Rs_leaf, Rs_sl, Rs_nil, List.cons_append, List.nil_append]
  exact ⟨_, rfl, ⟨_, rfl, ⟨_, rfl, ⟨_, _, _, _, (List.append_nil _).symm, rfl, s0, ⟨rfl, rfl⟩⟩⟩⟩⟩
theorem GExpr.mk_out {w : World} {x : GExpr} {k : Int} {fp : List Nat} {cs : List Value} (h : R w (x.toD.mk k) fp cs) : ∃ (a0 a1 a2 a3 : Int) (v0 : Value) (f0 : List Nat), a0 = k ∧ a1 = k + ((1 : Nat) : Int) ∧ a2 = k + ((1 : Nat) : Int) + ((1 : Nat) : Int) ∧ a3 = k + ((1 : Nat) : Int) + ((1 : Nat) : Int) + ((1 : Nat) : Int) ∧ fp = f0 ∧ cs = [.int .i64 a0, .int .i64 a1, .string (mtxt a2), v0] ∧ Sl w (D.mks (x.args.map GExpr.toD) a3) f0 v0 := by
  simp only [GExpr.toD_eq, D.mk, D.mks, D.cnt, D.cnts, mleaf, li, ls, R_agg, Rs_agg, Rs_leaf, Rs_sl, Rs_nil, List.cons_append, List.nil_append] at h
  obtain ⟨_, rfl, ⟨_, rfl, ⟨_, rfl, ⟨_, _, _, _, rfl, rfl, s0, ⟨rfl, rfl⟩⟩⟩⟩⟩ := h
  exact ⟨_, _, _, _, _, _, rfl, rfl, rfl, rfl, by simp, rfl, s0⟩
theorem GExpr.amk_in {w : World} {x : GExpr} {k : Int} {a3 : Int} {f0 : List Nat} {v0 : Value} (e3 : a3 = k + ((0 : Nat) : Int) + ((0 : Nat) : Int) + ((0 : Nat) : Int)) (s0 : Sl w (D.mks (x.args.map GExpr.toD) a3) f0 v0) : R w (x.toD.amk k) (f0) [.int .i64 x.kind, .int .i64 x.n, .string x.text, v0] := by
  subst e3
  simp only [GExpr.toD_eq, D.amk, D.amks, D.acnt, D.acnts, li, ls, R_agg, Rs_agg, Rs_leaf, Rs_sl, Rs_nil, List.cons_append, List.nil_append]
  exact ⟨_, rfl, ⟨_, rfl, ⟨_, rfl, ⟨_, _, _, _, (List.append_nil _).symm, rfl, s0, ⟨rfl, rfl⟩⟩⟩⟩⟩
theorem GExpr.amk_out {w : World} {x : GExpr} {k : Int} {fp : List Nat} {cs : List Value} (h : R w (x.toD.amk k) fp cs) : ∃ (a3 : Int) (v0 : Value) (f0 : List Nat), a3 = k + ((0 : Nat) : Int) + ((0 : Nat) : Int) + ((0 : Nat) : Int) ∧ fp = f0 ∧ cs = [.int .i64 x.kind, .int .i64 x.n, .string x.text, v0] ∧ Sl w (D.mks (x.args.map GExpr.toD) a3) f0 v0 := by
  simp only [GExpr.toD_eq, D.amk, D.amks, D.acnt, D.acnts, li, ls, R_agg, Rs_agg, Rs_leaf, Rs_sl, Rs_nil, List.cons_append, List.nil_append] at h
  obtain ⟨_, rfl, ⟨_, rfl, ⟨_, rfl, ⟨_, _, _, _, rfl, rfl, s0, ⟨rfl, rfl⟩⟩⟩⟩⟩ := h
  exact ⟨_, _, _, rfl, by simp, rfl, s0⟩
theorem GExpr.acnt_eq (x : GExpr) : x.toD.acnt = D.cnts (x.args.map GExpr.toD) := by
  simp only [GExpr.toD_eq, D.acnt, D.acnts, li, ls]
  try omega

set_option maxRecDepth 20000 in
set_option maxHeartbeats 4000000 in
theorem ExprS_mark_of (l : List GExpr) (hM0 : ∀ x ∈ l, MarksSaid Tryz.prog 24 (x.args.map GExpr.toD)) : MarksSaid Tryz.prog 24 (l.map GExpr.toD) := by
  intro w fp v k hS hF hk0 hk1
  obtain ⟨A, c, rfl, hl, hc⟩ := hS.formT
  have hm : l.length ≤ 9223372036854775807 := by unfold maxLen at hc; omega
  clear hl hc
  go_enter Tryz.func24, Tryz.ntmps24
  go_wp2_with fail
  go_loopw [1, 5] (fun kv iv wr => ∃ (i : Nat) (K : Int), i ≤ l.length ∧ iv = .int .i64 i ∧ kv = .int .i64 K ∧ K = k + D.cnts ((l.map GExpr.toD).take i) ∧ Sl wr (part (l.map GExpr.toD) k i) fp (.slice A l.length c) ∧ Touch fp w wr) (fun _ iv _ => l.length - (intOf iv).toNat)
  case atStart => exact ⟨0, k, by omega, rfl, rfl, by simp [D.cnts_nil], by rw [part_zero]; exact hS, Touch.refl _ _⟩
  case round =>
    obtain ⟨i, K, hi, rfl, rfl, hK, hSi, hT⟩ := hrel
    by_cases hlt : i < l.length
    · have hi' : i < (l.map GExpr.toD).length := by rw [List.length_map]; exact hlt
      have hcn := D.cnts_take (l.map GExpr.toD) hi'
      have hle := D.cnts_take_le (l.map GExpr.toD) (i + 1)
      rw [List.getElem_map, GExpr.cnt_eq] at hcn
      have hk2 : 0 ≤ K := by omega
      have hk3 : K + 3 + (D.cnts (l[i].args.map GExpr.toD) : Int) ≤ 4611686018427387904 := by omega
      have hK' := Lib.hid hK
      have hcn' := Lib.hid hcn
      have hFr := hF.touch (R.lt hS) hT
      obtain ⟨b, o, fi, ci, rfl, hbb, hbf, hri, hfi, hbn, hfn, hat, hback⟩ := hSi.focus hF.1 (part_sz GExpr.szs k i) (part_get (l.map GExpr.toD) k hi')
      rw [List.getElem_map] at hri
      clear hK hcn hle
      obtain ⟨v0, fi, rfl, rfl, hV0⟩ := GExpr.opened.1 hri
      obtain ⟨A0, c0, rfl, hqa, hqb⟩ := hV0.formT
      clear hqa hqb
      have nd0 := hfn
      have bn0 : b ∉ fi := fun hx => hbn (by first | exact hx | simp [hx])
      have Fr0 : Free wr 0 fi := hFr.sub nd0 (fun x hx => hfi x (by first | exact hx | simp [hx]))
      have z0 : ∀ off, wr.frozen? ⟨b, off, none⟩ = false := fun off => (hFr.2 b hbf).2 off
      clear hri
      have hI0 : Inr b (o + i * 4) (o + i * 4 + 4) [] wr wr := Inr.refl _ _ _ _ _
      have hA0 := hat
      clear hat
      have q0 := hA0.head
      have q1 := hA0.nth 1 rfl
      go_wp2_with fail
      refine (markText_any _ _ (by omega)).mono ?_
      rintro e w1 ⟨rfl, hb1⟩
      have hbW := ((hI0.setCell (off := o + i * 4) (by omega) (by omega) (.int .i64 (K))).setCell (off := o + i * 4 + 1) (by omega) (by omega) (.int .i64 (K + 1)))
      have hI1 := (((hI0.setCell (off := o + i * 4) (by omega) (by omega) (.int .i64 (K))).setCell (off := o + i * 4 + 1) (by omega) (by omega) (.int .i64 (K + 1)))).below hbb hb1
      have hA1 := (((hA0.set (j := 0) (by simp) (.int .i64 (K))).set (j := 1) (by simp) (.int .i64 (K + 1)))).below (Nat.lt_of_lt_of_le hbb hbW.size) hb1
      have z1 : ∀ off, w1.frozen? ⟨b, off, none⟩ = false := fun off => (hI1.froz b off hbb).trans (hFr.2 b hbf |>.2 off)
      clear hbW hb1 z0 hA0 hI0 q0 q1
      have q2 := hA1.nth 2 rfl
      have q3 := hA1.nth 3 rfl
      go_wp2_with fail
      have hbW := (hI1.setCell (off := o + i * 4 + 2) (by omega) (by omega) (.string (mtxt (K + 1 + 1))))
      refine (hM0 _ (List.getElem_mem hlt) _ fi _ _ (hV0.inr hbW bn0 (fun x hx => notin_nil)) (Fr0.inr (R.lt hV0) hbW) (by omega) (by omega)).mono ?_
      rintro e w2 ⟨rfl, hS0, hb2⟩
      have hI2 := (((hI1.setCell (off := o + i * 4 + 2) (by omega) (by omega) (.string (mtxt (K + 1 + 1))))).mono (F' := [] ++ fi) (fun x hx => List.mem_append_left _ hx)).touch hbb hb2 (fun x hx => List.mem_append_right _ hx) bn0
      have hA2 := ((hA1.set (j := 2) (by simp) (.string (mtxt (K + 1 + 1))))).touch (Nat.lt_of_lt_of_le hbb hbW.size) hb2 bn0
      have hbb2 : b < w2.heap.size := Nat.lt_of_lt_of_le hbb hI2.size
      have hJ0_2 : Inr b (o + i * 4) (o + i * 4 + 4) [] w2 w2 := Inr.refl _ _ _ _ _
      have z2 : ∀ off, w2.frozen? ⟨b, off, none⟩ = false := fun off => (hI2.froz b off hbb).trans (hFr.2 b hbf |>.2 off)
      clear hbW hb2 z1 hA1 hI1 q2 q3
      go_wp2_with fail
      have hIe := hI2
      have hAe := hA2
      have hSe0 := hS0.inr hJ0_2 bn0 (fun x hx => notin_nil)
      have hIf := hIe.mono (F' := fi) (fun x hx => by simpa using hx)
      go_roundw
      case rel =>
        refine ⟨i + 1, K + 1 + 1 + 1 + (D.cnts (l[i].args.map GExpr.toD) : Int), by omega, by go_num, rfl, ?_, ?_, hT.trans (hIf.toTouch hbf hfi)⟩
        · rw [hcn'.out]; have := hK'.out; push_cast; omega
        · rw [← part_succ _ k hi', List.getElem_map]
          exact hback _ _ _ (by rw [D.mk_sz]; exact GExpr.sz_eq _) (GExpr.mk_in (by have := hK'.out; push_cast; omega) (by have := hK'.out; push_cast; omega) (by have := hK'.out; push_cast; omega) (by have := hK'.out; push_cast; omega) hSe0) hAe hIf
      case measure => (simp [intOf] <;> omega)
    · have hf := Lib.hid (show i = l.length by omega)
      have hK' := Lib.hid hK
      clear hK
      go_wp2_with fail
      go_ret
      have e1 := hf.out
      have e2 := hK'.out
      rw [List.take_of_length_le (by rw [List.length_map]; omega)] at e2
      rw [part_all _ _ (by rw [List.length_map]; omega)] at hSi
      exact ⟨ret_int e2, hSi, hT⟩

theorem GExpr.mark_sub : ∀ (n : Nat) (x : GExpr), SizeOf.sizeOf x ≤ n → MarksSaid Tryz.prog 24 (x.args.map GExpr.toD)
  | 0, x, h => by cases x; simp at h
  | n + 1, x, h => ExprS_mark_of _ (fun y hy => GExpr.mark_sub n y (by have := GExpr.lt_of_mem hy; omega))
theorem ExprS_mark (l : List GExpr) : MarksSaid Tryz.prog 24 (l.map GExpr.toD) := ExprS_mark_of l (fun y _ => GExpr.mark_sub _ y (Nat.le_refl _))

theorem GPart.cnt_eq (x : GPart) : x.toD.cnt = 10 + D.cnts (x.expr.args.map GExpr.toD) + D.cnts (x.value.list.map GVal.toD) + D.cnts (x.value.cols.map ls) + D.cnts (x.value.rows.map GRow.toD) := by
  simp only [GPart.toD_eq, GExpr.toD_eq, GVal.toD_eq, D.cnt, D.cnts, li, ls]
  try omega
theorem GPart.mk_in {w : World} {x : GPart} {k : Int} {a0 a1 a2 a3 a4 a5 a6 a7 a8 a9 a10 a11 a12 a13 : Int} {f0 f1 f2 f3 : List Nat} {v0 v1 v2 v3 : Value} (e0 : a0 = k) (e1 : a1 = k + ((1 : Nat) : Int)) (e2 : a2 = k + ((1 : Nat) : Int) + ((1 : Nat) : Int)) (e3 : a3 = k + ((1 : Nat) : Int) + ((1 : Nat) : Int) + ((1 : Nat) : Int)) (e4 : a4 = k + ((1 : Nat) : Int) + ((1 : Nat) : Int) + ((1 : Nat) : Int) + ((1 : Nat) : Int)) (e5 : a5 = k + ((1 : Nat) : Int) + ((1 : Nat) : Int) + ((1 : Nat) : Int) + ((1 : Nat) : Int) + ((1 : Nat) : Int)) (e6 : a6 = k + ((1 : Nat) : Int) + ((1 : Nat) : Int) + (((1 + (1 + (1 + (D.cnts (x.expr.args.map GExpr.toD) + 0)))) : Nat) : Int)) (e7 : a7 = k + ((1 : Nat) : Int) + ((1 : Nat) : Int) + (((1 + (1 + (1 + (D.cnts (x.expr.args.map GExpr.toD) + 0)))) : Nat) : Int) + ((1 : Nat) : Int)) (e8 : a8 = k + ((1 : Nat) : Int) + ((1 : Nat) : Int) + (((1 + (1 + (1 + (D.cnts (x.expr.args.map GExpr.toD) + 0)))) : Nat) : Int) + ((1 : Nat) : Int) + ((1 : Nat) : Int)) (e9 : a9 = k + ((1 : Nat) : Int) + ((1 : Nat) : Int) + (((1 + (1 + (1 + (D.cnts (x.expr.args.map GExpr.toD) + 0)))) : Nat) : Int) + ((1 : Nat) : Int) + ((1 : Nat) : Int) + ((1 : Nat) : Int)) (e10 : a10 = k + ((1 : Nat) : Int) + ((1 : Nat) : Int) + (((1 + (1 + (1 + (D.cnts (x.expr.args.map GExpr.toD) + 0)))) : Nat) : Int) + ((1 : Nat) : Int) + ((1 : Nat) : Int) + ((1 : Nat) : Int) + ((1 : Nat) : Int)) (e11 : a11 = k + ((1 : Nat) : Int) + ((1 : Nat) : Int) + (((1 + (1 + (1 + (D.cnts (x.expr.args.map GExpr.toD) + 0)))) : Nat) : Int) + ((1 : Nat) : Int) + ((1 : Nat) : Int) + ((1 : Nat) : Int) + ((1 : Nat) : Int) + ((D.cnts (x.value.list.map GVal.toD) : Nat) : Int)) (e12 : a12 = k + ((1 : Nat) : Int) + ((1 : Nat) : Int) + (((1 + (1 + (1 + (D.cnts (x.expr.args.map GExpr.toD) + 0)))) : Nat) : Int) + ((1 : Nat) : Int) + ((1 : Nat) : Int) + ((1 : Nat) : Int) + ((1 : Nat) : Int) + ((D.cnts (x.value.list.map GVal.toD) : Nat) : Int) + ((D.cnts (x.value.cols.map ls) : Nat) : Int)) (e13 : a13 = k + ((1 : Nat) : Int) + ((1 : Nat) : Int) + (((1 + (1 + (1 + (D.cnts (x.expr.args.map GExpr.toD) + 0)))) : Nat) : Int) + (((1 + (1 + (1 + (1 + (D.cnts (x.value.list.map GVal.toD) + (D.cnts (x.value.cols.map ls) + (D.cnts (x.value.rows.map GRow.toD) + 0))))))) : Nat) : Int)) (s0 : Sl w (D.mks (x.expr.args.map GExpr.toD) a5) f0 v0) (s1 : Sl w (D.mks (x.value.list.map GVal.toD) a10) f1 v1) (s2 : Sl w (D.mks (x.value.cols.map ls) a11) f2 v2) (s3 : Sl w (D.mks (x.value.rows.map GRow.toD) a12) f3 v3) : R w (x.toD.mk k) (f0 ++ (f1 ++ (f2 ++ (f3)))) [.int .i64 a0, .string (mtxt a1), .int .i64 a2, .int .i64 a3, .string (mtxt a4), v0, .int .i64 a6, .int .i64 a7, .int .i64 a8, .string (mtxt a9), v1, v2, v3, .int .i64 a13] := by
  subst e0 e1 e2 e3 e4 e5 e6 e7 e8 e9 e10 e11 e12 e13
  simp only [GPart.toD_eq, GExpr.toD_eq, GVal.toD_eq, D.mk, D.mks, D.cnt, D.cnts, mleaf, li, ls, R_agg, Rs_agg, Rs_leaf, Rs_sl, Rs_nil, List.cons_append, List.nil_append]
  exact ⟨_, rfl, ⟨_, rfl, ⟨_, rfl, ⟨_, rfl, ⟨_, rfl, ⟨_, _, _, _, rfl, rfl, s0, ⟨_, rfl, ⟨_, rfl, ⟨_, rfl, ⟨_, rfl, ⟨_, _, _, _, rfl, rfl, s1, ⟨_, _, _, _, rfl, rfl, s2, ⟨_, _, _, _, (List.append_nil _).symm, rfl, s3, ⟨_, rfl, ⟨rfl, rfl⟩⟩⟩⟩⟩⟩⟩⟩⟩⟩⟩⟩⟩⟩⟩
theorem GPart.mk_out {w : World} {x : GPart} {k : Int} {fp : List Nat} {cs : List Value} (h : R w (x.toD.mk k) fp cs) : ∃ (a0 a1 a2 a3 a4 a5 a6 a7 a8 a9 a10 a11 a12 a13 : Int) (v0 v1 v2 v3 : Value) (f0 f1 f2 f3 : List Nat), a0 = k ∧ a1 = k + ((1 : Nat) : Int) ∧ a2 = k + ((1 : Nat) : Int) + ((1 : Nat) : Int) ∧ a3 = k + ((1 : Nat) : Int) + ((1 : Nat) : Int) + ((1 : Nat) : Int) ∧ a4 = k + ((1 : Nat) : Int) + ((1 : Nat) : Int) + ((1 : Nat) : Int) + ((1 : Nat) : Int) ∧ a5 = k + ((1 : Nat) : Int) + ((1 : Nat) : Int) + ((1 : Nat) : Int) + ((1 : Nat) : Int) + ((1 : Nat) : Int) ∧ a6 = k + ((1 : Nat) : Int) + ((1 : Nat) : Int) + (((1 + (1 + (1 + (D.cnts (x.expr.args.map GExpr.toD) + 0)))) : Nat) : Int) ∧ a7 = k + ((1 : Nat) : Int) + ((1 : Nat) : Int) + (((1 + (1 + (1 + (D.cnts (x.expr.args.map GExpr.toD) + 0)))) : Nat) : Int) + ((1 : Nat) : Int) ∧ a8 = k + ((1 : Nat) : Int) + ((1 : Nat) : Int) + (((1 + (1 + (1 + (D.cnts (x.expr.args.map GExpr.toD) + 0)))) : Nat) : Int) + ((1 : Nat) : Int) + ((1 : Nat) : Int) ∧ a9 = k + ((1 : Nat) : Int) + ((1 : Nat) : Int) + (((1 + (1 + (1 + (D.cnts (x.expr.args.map GExpr.toD) + 0)))) : Nat) : Int) + ((1 : Nat) : Int) + ((1 : Nat) : Int) + ((1 : Nat) : Int) ∧ a10 = k + ((1 : Nat) : Int) + ((1 : Nat) : Int) + (((1 + (1 + (1 + (D.cnts (x.expr.args.map GExpr.toD) + 0)))) : Nat) : Int) + ((1 : Nat) : Int) + ((1 : Nat) : Int) + ((1 : Nat) : Int) + ((1 : Nat) : Int) ∧ a11 = k + ((1 : Nat) : Int) + ((1 : Nat) : Int) + (((1 + (1 + (1 + (D.cnts (x.expr.args.map GExpr.toD) + 0)))) : Nat) : Int) + ((1 : Nat) : Int) + ((1 : Nat) : Int) + ((1 : Nat) : Int) + ((1 : Nat) : Int) + ((D.cnts (x.value.list.map GVal.toD) : Nat) : Int) ∧ a12 = k + ((1 : Nat) : Int) + ((1 : Nat) : Int) + (((1 + (1 + (1 + (D.cnts (x.expr.args.map GExpr.toD) + 0)))) : Nat) : Int) + ((1 : Nat) : Int) + ((1 : Nat) : Int) + ((1 : Nat) : Int) + ((1 : Nat) : Int) + ((D.cnts (x.value.list.map GVal.toD) : Nat) : Int) + ((D.cnts (x.value.cols.map ls) : Nat) : Int) ∧ a13 = k + ((1 : Nat) : Int) + ((1 : Nat) : Int) + (((1 + (1 + (1 + (D.cnts (x.expr.args.map GExpr.toD) + 0)))) : Nat) : Int) + (((1 + (1 + (1 + (1 + (D.cnts (x.value.list.map GVal.toD) + (D.cnts (x.value.cols.map ls) + (D.cnts (x.value.rows.map GRow.toD) + 0))))))) : Nat) : Int) ∧ fp = f0 ++ (f1 ++ (f2 ++ (f3))) ∧ cs = [.int .i64 a0, .string (mtxt a1), .int .i64 a2, .int .i64 a3, .string (mtxt a4), v0, .int .i64 a6, .int .i64 a7, .int .i64 a8, .string (mtxt a9), v1, v2, v3, .int .i64 a13] ∧ Sl w (D.mks (x.expr.args.map GExpr.toD) a5) f0 v0 ∧ Sl w (D.mks (x.value.list.map GVal.toD) a10) f1 v1 ∧ Sl w (D.mks (x.value.cols.map ls) a11) f2 v2 ∧ Sl w (D.mks (x.value.rows.map GRow.toD) a12) f3 v3 := by
  simp only [GPart.toD_eq, GExpr.toD_eq, GVal.toD_eq, D.mk, D.mks, D.cnt, D.cnts, mleaf, li, ls, R_agg, Rs_agg, Rs_leaf, Rs_sl, Rs_nil, List.cons_append, List.nil_append] at h
  obtain ⟨_, rfl, ⟨_, rfl, ⟨_, rfl, ⟨_, rfl, ⟨_, rfl, ⟨_, _, _, _, rfl, rfl, s0, ⟨_, rfl, ⟨_, rfl, ⟨_, rfl, ⟨_, rfl, ⟨_, _, _, _, rfl, rfl, s1, ⟨_, _, _, _, rfl, rfl, s2, ⟨_, _, _, _, rfl, rfl, s3, ⟨_, rfl, ⟨rfl, rfl⟩⟩⟩⟩⟩⟩⟩⟩⟩⟩⟩⟩⟩⟩⟩ := h
  exact ⟨_, _, _, _, _, _, _, _, _, _, _, _, _, _, _, _, _, _, _, _, _, _, rfl, rfl, rfl, rfl, rfl, rfl, rfl, rfl, rfl, rfl, rfl, rfl, rfl, rfl, by simp, rfl, s0, s1, s2, s3⟩
theorem GPart.amk_in {w : World} {x : GPart} {k : Int} {a5 a10 a11 a12 : Int} {f0 f1 f2 f3 : List Nat} {v0 v1 v2 v3 : Value} (e5 : a5 = k + ((0 : Nat) : Int) + ((0 : Nat) : Int) + ((0 : Nat) : Int) + ((0 : Nat) : Int) + ((0 : Nat) : Int)) (e10 : a10 = k + ((0 : Nat) : Int) + ((0 : Nat) : Int) + (((0 + (0 + (0 + (D.cnts (x.expr.args.map GExpr.toD) + 0)))) : Nat) : Int) + ((0 : Nat) : Int) + ((0 : Nat) : Int) + ((0 : Nat) : Int) + ((0 : Nat) : Int)) (e11 : a11 = k + ((0 : Nat) : Int) + ((0 : Nat) : Int) + (((0 + (0 + (0 + (D.cnts (x.expr.args.map GExpr.toD) + 0)))) : Nat) : Int) + ((0 : Nat) : Int) + ((0 : Nat) : Int) + ((0 : Nat) : Int) + ((0 : Nat) : Int) + ((D.cnts (x.value.list.map GVal.toD) : Nat) : Int)) (e12 : a12 = k + ((0 : Nat) : Int) + ((0 : Nat) : Int) + (((0 + (0 + (0 + (D.cnts (x.expr.args.map GExpr.toD) + 0)))) : Nat) : Int) + ((0 : Nat) : Int) + ((0 : Nat) : Int) + ((0 : Nat) : Int) + ((0 : Nat) : Int) + ((D.cnts (x.value.list.map GVal.toD) : Nat) : Int) + ((D.cnts (x.value.cols.map ls) : Nat) : Int)) (s0 : Sl w (D.mks (x.expr.args.map GExpr.toD) a5) f0 v0) (s1 : Sl w (D.mks (x.value.list.map GVal.toD) a10) f1 v1) (s2 : Sl w (D.mks (x.value.cols.map ls) a11) f2 v2) (s3 : Sl w (D.mks (x.value.rows.map GRow.toD) a12) f3 v3) : R w (x.toD.amk k) (f0 ++ (f1 ++ (f2 ++ (f3)))) [.int .i64 x.kind, .string x.name, .int .i64 x.expr.kind, .int .i64 x.expr.n, .string x.expr.text, v0, .int .i64 x.value.kind, .int .i64 x.value.n, .int .i64 x.value.step, .string x.value.text, v1, v2, v3, .int .i64 x.pos] := by
  subst e5 e10 e11 e12
  simp only [GPart.toD_eq, GExpr.toD_eq, GVal.toD_eq, D.amk, D.amks, D.acnt, D.acnts, li, ls, R_agg, Rs_agg, Rs_leaf, Rs_sl, Rs_nil, List.cons_append, List.nil_append]
  exact ⟨_, rfl, ⟨_, rfl, ⟨_, rfl, ⟨_, rfl, ⟨_, rfl, ⟨_, _, _, _, rfl, rfl, s0, ⟨_, rfl, ⟨_, rfl, ⟨_, rfl, ⟨_, rfl, ⟨_, _, _, _, rfl, rfl, s1, ⟨_, _, _, _, rfl, rfl, s2, ⟨_, _, _, _, (List.append_nil _).symm, rfl, s3, ⟨_, rfl, ⟨rfl, rfl⟩⟩⟩⟩⟩⟩⟩⟩⟩⟩⟩⟩⟩⟩⟩
theorem GPart.amk_out {w : World} {x : GPart} {k : Int} {fp : List Nat} {cs : List Value} (h : R w (x.toD.amk k) fp cs) : ∃ (a5 a10 a11 a12 : Int) (v0 v1 v2 v3 : Value) (f0 f1 f2 f3 : List Nat), a5 = k + ((0 : Nat) : Int) + ((0 : Nat) : Int) + ((0 : Nat) : Int) + ((0 : Nat) : Int) + ((0 : Nat) : Int) ∧ a10 = k + ((0 : Nat) : Int) + ((0 : Nat) : Int) + (((0 + (0 + (0 + (D.cnts (x.expr.args.map GExpr.toD) + 0)))) : Nat) : Int) + ((0 : Nat) : Int) + ((0 : Nat) : Int) + ((0 : Nat) : Int) + ((0 : Nat) : Int) ∧ a11 = k + ((0 : Nat) : Int) + ((0 : Nat) : Int) + (((0 + (0 + (0 + (D.cnts (x.expr.args.map GExpr.toD) + 0)))) : Nat) : Int) + ((0 : Nat) : Int) + ((0 : Nat) : Int) + ((0 : Nat) : Int) + ((0 : Nat) : Int) + ((D.cnts (x.value.list.map GVal.toD) : Nat) : Int) ∧ a12 = k + ((0 : Nat) : Int) + ((0 : Nat) : Int) + (((0 + (0 + (0 + (D.cnts (x.expr.args.map GExpr.toD) + 0)))) : Nat) : Int) + ((0 : Nat) : Int) + ((0 : Nat) : Int) + ((0 : Nat) : Int) + ((0 : Nat) : Int) + ((D.cnts (x.value.list.map GVal.toD) : Nat) : Int) + ((D.cnts (x.value.cols.map ls) : Nat) : Int) ∧ fp = f0 ++ (f1 ++ (f2 ++ (f3))) ∧ cs = [.int .i64 x.kind, .string x.name, .int .i64 x.expr.kind, .int .i64 x.expr.n, .string x.expr.text, v0, .int .i64 x.value.kind, .int .i64 x.value.n, .int .i64 x.value.step, .string x.value.text, v1, v2, v3, .int .i64 x.pos] ∧ Sl w (D.mks (x.expr.args.map GExpr.toD) a5) f0 v0 ∧ Sl w (D.mks (x.value.list.map GVal.toD) a10) f1 v1 ∧ Sl w (D.mks (x.value.cols.map ls) a11) f2 v2 ∧ Sl w (D.mks (x.value.rows.map GRow.toD) a12) f3 v3 := by
  simp only [GPart.toD_eq, GExpr.toD_eq, GVal.toD_eq, D.amk, D.amks, D.acnt, D.acnts, li, ls, R_agg, Rs_agg, Rs_leaf, Rs_sl, Rs_nil, List.cons_append, List.nil_append] at h
  obtain ⟨_, rfl, ⟨_, rfl, ⟨_, rfl, ⟨_, rfl, ⟨_, rfl, ⟨_, _, _, _, rfl, rfl, s0, ⟨_, rfl, ⟨_, rfl, ⟨_, rfl, ⟨_, rfl, ⟨_, _, _, _, rfl, rfl, s1, ⟨_, _, _, _, rfl, rfl, s2, ⟨_, _, _, _, rfl, rfl, s3, ⟨_, rfl, ⟨rfl, rfl⟩⟩⟩⟩⟩⟩⟩⟩⟩⟩⟩⟩⟩⟩⟩ := h
  exact ⟨_, _, _, _, _, _, _, _, _, _, _, _, rfl, rfl, rfl, rfl, by simp, rfl, s0, s1, s2, s3⟩
theorem GPart.acnt_eq (x : GPart) : x.toD.acnt = D.cnts (x.expr.args.map GExpr.toD) + D.cnts (x.value.list.map GVal.toD) + D.cnts (x.value.cols.map ls) + D.cnts (x.value.rows.map GRow.toD) := by
  simp only [GPart.toD_eq, GExpr.toD_eq, GVal.toD_eq, D.acnt, D.acnts, li, ls]
  try omega

set_option maxRecDepth 20000 in
set_option maxHeartbeats 4000000 in
theorem PartS_mark_of (l : List GPart) (hM0 : ∀ x ∈ l, MarksSaid Tryz.prog 24 (x.expr.args.map GExpr.toD)) (hM1 : ∀ x ∈ l, MarksSaid Tryz.prog 25 (x.value.list.map GVal.toD)) (hM2 : ∀ x ∈ l, MarksSaid Tryz.prog 26 (x.value.cols.map ls)) (hM3 : ∀ x ∈ l, MarksSaid Tryz.prog 27 (x.value.rows.map GRow.toD)) : MarksSaid Tryz.prog 10 (l.map GPart.toD) := by
  intro w fp v k hS hF hk0 hk1
  obtain ⟨A, c, rfl, hl, hc⟩ := hS.formT
  have hm : l.length ≤ 9223372036854775807 := by unfold maxLen at hc; omega
  clear hl hc
  go_enter Tryz.func10, Tryz.ntmps10
  go_wp2_with fail
  go_loopw [1, 5] (fun kv iv wr => ∃ (i : Nat) (K : Int), i ≤ l.length ∧ iv = .int .i64 i ∧ kv = .int .i64 K ∧ K = k + D.cnts ((l.map GPart.toD).take i) ∧ Sl wr (part (l.map GPart.toD) k i) fp (.slice A l.length c) ∧ Touch fp w wr) (fun _ iv _ => l.length - (intOf iv).toNat)
  case atStart => exact ⟨0, k, by omega, rfl, rfl, by simp [D.cnts_nil], by rw [part_zero]; exact hS, Touch.refl _ _⟩
  case round =>
    obtain ⟨i, K, hi, rfl, rfl, hK, hSi, hT⟩ := hrel
    by_cases hlt : i < l.length
    · have hi' : i < (l.map GPart.toD).length := by rw [List.length_map]; exact hlt
      have hcn := D.cnts_take (l.map GPart.toD) hi'
      have hle := D.cnts_take_le (l.map GPart.toD) (i + 1)
      rw [List.getElem_map, GPart.cnt_eq] at hcn
      have hk2 : 0 ≤ K := by omega
      have hk3 : K + 10 + (D.cnts (l[i].expr.args.map GExpr.toD) : Int) + (D.cnts (l[i].value.list.map GVal.toD) : Int) + (D.cnts (l[i].value.cols.map ls) : Int) + (D.cnts (l[i].value.rows.map GRow.toD) : Int) ≤ 4611686018427387904 := by omega
      have hK' := Lib.hid hK
      have hcn' := Lib.hid hcn
      have hFr := hF.touch (R.lt hS) hT
      obtain ⟨b, o, fi, ci, rfl, hbb, hbf, hri, hfi, hbn, hfn, hat, hback⟩ := hSi.focus hF.1 (part_sz GPart.szs k i) (part_get (l.map GPart.toD) k hi')
      rw [List.getElem_map] at hri
      clear hK hcn hle
      obtain ⟨v0, v1, v2, v3, g0, g1, g2, g3, rfl, rfl, hV0, hV1, hV2, hV3⟩ := GPart.opened.1 hri
      obtain ⟨A0, c0, rfl, hqa, hqb⟩ := hV0.formT
      clear hqa hqb
      obtain ⟨A1, c1, rfl, hqa, hqb⟩ := hV1.formT
      clear hqa hqb
      obtain ⟨A2, c2, rfl, hqa, hqb⟩ := hV2.formT
      clear hqa hqb
      obtain ⟨A3, c3, rfl, hqa, hqb⟩ := hV3.formT
      clear hqa hqb
      have nN1 := (List.nodup_append.1 hfn).2.1
      have nd0 := (List.nodup_append.1 hfn).1
      have D0_1 : ∀ x ∈ g1, x ∉ g0 := fun x hx hy => (List.nodup_append.1 hfn).2.2 x hy x (by simp [hx]) rfl
      have D1_0 : ∀ x ∈ g0, x ∉ g1 := fun x hx hy => D0_1 x hy hx
      have D0_2 : ∀ x ∈ g2, x ∉ g0 := fun x hx hy => (List.nodup_append.1 hfn).2.2 x hy x (by simp [hx]) rfl
      have D2_0 : ∀ x ∈ g0, x ∉ g2 := fun x hx hy => D0_2 x hy hx
      have D0_3 : ∀ x ∈ g3, x ∉ g0 := fun x hx hy => (List.nodup_append.1 hfn).2.2 x hy x (by simp [hx]) rfl
      have D3_0 : ∀ x ∈ g0, x ∉ g3 := fun x hx hy => D0_3 x hy hx
      have nN2 := (List.nodup_append.1 nN1).2.1
      have nd1 := (List.nodup_append.1 nN1).1
      have D1_2 : ∀ x ∈ g2, x ∉ g1 := fun x hx hy => (List.nodup_append.1 nN1).2.2 x hy x (by simp [hx]) rfl
      have D2_1 : ∀ x ∈ g1, x ∉ g2 := fun x hx hy => D1_2 x hy hx
      have D1_3 : ∀ x ∈ g3, x ∉ g1 := fun x hx hy => (List.nodup_append.1 nN1).2.2 x hy x (by simp [hx]) rfl
      have D3_1 : ∀ x ∈ g1, x ∉ g3 := fun x hx hy => D1_3 x hy hx
      have nN3 := (List.nodup_append.1 nN2).2.1
      have nd2 := (List.nodup_append.1 nN2).1
      have D2_3 : ∀ x ∈ g3, x ∉ g2 := fun x hx hy => (List.nodup_append.1 nN2).2.2 x hy x (by simp [hx]) rfl
      have D3_2 : ∀ x ∈ g2, x ∉ g3 := fun x hx hy => D2_3 x hy hx
      have nd3 := nN3
      have bn0 : b ∉ g0 := fun hx => hbn (by first | exact hx | simp [hx])
      have Fr0 : Free wr 0 g0 := hFr.sub nd0 (fun x hx => hfi x (by first | exact hx | simp [hx]))
      have bn1 : b ∉ g1 := fun hx => hbn (by first | exact hx | simp [hx])
      have Fr1 : Free wr 0 g1 := hFr.sub nd1 (fun x hx => hfi x (by first | exact hx | simp [hx]))
      have bn2 : b ∉ g2 := fun hx => hbn (by first | exact hx | simp [hx])
      have Fr2 : Free wr 0 g2 := hFr.sub nd2 (fun x hx => hfi x (by first | exact hx | simp [hx]))
      have bn3 : b ∉ g3 := fun hx => hbn (by first | exact hx | simp [hx])
      have Fr3 : Free wr 0 g3 := hFr.sub nd3 (fun x hx => hfi x (by first | exact hx | simp [hx]))
      have z0 : ∀ off, wr.frozen? ⟨b, off, none⟩ = false := fun off => (hFr.2 b hbf).2 off
      clear hri
      have hI0 : Inr b (o + i * 14) (o + i * 14 + 14) [] wr wr := Inr.refl _ _ _ _ _
      have hA0 := hat
      clear hat
      have q0 := hA0.head
      go_wp2_with fail
      refine (markText_any _ _ (by omega)).mono ?_
      rintro e w1 ⟨rfl, hb1⟩
      have hbW := (hI0.setCell (off := o + i * 14) (by omega) (by omega) (.int .i64 (K)))
      have hI1 := ((hI0.setCell (off := o + i * 14) (by omega) (by omega) (.int .i64 (K)))).below hbb hb1
      have hA1 := ((hA0.set (j := 0) (by simp) (.int .i64 (K)))).below (Nat.lt_of_lt_of_le hbb hbW.size) hb1
      have z1 : ∀ off, w1.frozen? ⟨b, off, none⟩ = false := fun off => (hI1.froz b off hbb).trans (hFr.2 b hbf |>.2 off)
      clear hbW hb1 z0 hA0 hI0 q0
      have q1 := hA1.nth 1 rfl
      have q2 := hA1.nth 2 rfl
      have q3 := hA1.nth 3 rfl
      go_wp2_with fail
      refine (markText_any _ _ (by omega)).mono ?_
      rintro e w2 ⟨rfl, hb2⟩
      have hbW := (((hI1.setCell (off := o + i * 14 + 1) (by omega) (by omega) (.string (mtxt (K + 1)))).setCell (off := o + i * 14 + 2) (by omega) (by omega) (.int .i64 (K + 1 + 1))).setCell (off := o + i * 14 + 3) (by omega) (by omega) (.int .i64 (K + 1 + 1 + 1)))
      have hI2 := ((((hI1.setCell (off := o + i * 14 + 1) (by omega) (by omega) (.string (mtxt (K + 1)))).setCell (off := o + i * 14 + 2) (by omega) (by omega) (.int .i64 (K + 1 + 1))).setCell (off := o + i * 14 + 3) (by omega) (by omega) (.int .i64 (K + 1 + 1 + 1)))).below hbb hb2
      have hA2 := ((((hA1.set (j := 1) (by simp) (.string (mtxt (K + 1)))).set (j := 2) (by simp) (.int .i64 (K + 1 + 1))).set (j := 3) (by simp) (.int .i64 (K + 1 + 1 + 1)))).below (Nat.lt_of_lt_of_le hbb hbW.size) hb2
      have z2 : ∀ off, w2.frozen? ⟨b, off, none⟩ = false := fun off => (hI2.froz b off hbb).trans (hFr.2 b hbf |>.2 off)
      clear hbW hb2 z1 hA1 hI1 q1 q2 q3
      have q4 := hA2.nth 4 rfl
      have q5 := hA2.nth 5 rfl
      go_wp2_with fail
      have hbW := (hI2.setCell (off := o + i * 14 + 4) (by omega) (by omega) (.string (mtxt (K + 1 + 1 + 1 + 1))))
      refine (hM0 _ (List.getElem_mem hlt) _ g0 _ _ (hV0.inr hbW bn0 (fun x hx => notin_nil)) (Fr0.inr (R.lt hV0) hbW) (by omega) (by omega)).mono ?_
      rintro e w3 ⟨rfl, hS0, hb3⟩
      have hI3 := (((hI2.setCell (off := o + i * 14 + 4) (by omega) (by omega) (.string (mtxt (K + 1 + 1 + 1 + 1))))).mono (F' := [] ++ g0) (fun x hx => List.mem_append_left _ hx)).touch hbb hb3 (fun x hx => List.mem_append_right _ hx) bn0
      have hA3 := ((hA2.set (j := 4) (by simp) (.string (mtxt (K + 1 + 1 + 1 + 1))))).touch (Nat.lt_of_lt_of_le hbb hbW.size) hb3 bn0
      have hbb3 : b < w3.heap.size := Nat.lt_of_lt_of_le hbb hI3.size
      have hJ0_3 : Inr b (o + i * 14) (o + i * 14 + 14) [] w3 w3 := Inr.refl _ _ _ _ _
      have z3 : ∀ off, w3.frozen? ⟨b, off, none⟩ = false := fun off => (hI3.froz b off hbb).trans (hFr.2 b hbf |>.2 off)
      clear hbW hb3 z2 hA2 hI2 q4 q5
      have q6 := hA3.nth 6 rfl
      have q7 := hA3.nth 7 rfl
      have q8 := hA3.nth 8 rfl
      go_wp2_with fail
      refine (markText_any _ _ (by omega)).mono ?_
      rintro e w4 ⟨rfl, hb4⟩
      have hbW := (((hI3.setCell (off := o + i * 14 + 6) (by omega) (by omega) (.int .i64 (K + 1 + 1 + 1 + 1 + 1 + (D.cnts (l[i].expr.args.map GExpr.toD) : Int)))).setCell (off := o + i * 14 + 7) (by omega) (by omega) (.int .i64 (K + 1 + 1 + 1 + 1 + 1 + (D.cnts (l[i].expr.args.map GExpr.toD) : Int) + 1))).setCell (off := o + i * 14 + 8) (by omega) (by omega) (.int .i64 (K + 1 + 1 + 1 + 1 + 1 + (D.cnts (l[i].expr.args.map GExpr.toD) : Int) + 1 + 1)))
      have hI4 := ((((hI3.setCell (off := o + i * 14 + 6) (by omega) (by omega) (.int .i64 (K + 1 + 1 + 1 + 1 + 1 + (D.cnts (l[i].expr.args.map GExpr.toD) : Int)))).setCell (off := o + i * 14 + 7) (by omega) (by omega) (.int .i64 (K + 1 + 1 + 1 + 1 + 1 + (D.cnts (l[i].expr.args.map GExpr.toD) : Int) + 1))).setCell (off := o + i * 14 + 8) (by omega) (by omega) (.int .i64 (K + 1 + 1 + 1 + 1 + 1 + (D.cnts (l[i].expr.args.map GExpr.toD) : Int) + 1 + 1)))).below hbb hb4
      have hJ0_4 := ((((hJ0_3.setCell (off := o + i * 14 + 6) (by omega) (by omega) (.int .i64 (K + 1 + 1 + 1 + 1 + 1 + (D.cnts (l[i].expr.args.map GExpr.toD) : Int)))).setCell (off := o + i * 14 + 7) (by omega) (by omega) (.int .i64 (K + 1 + 1 + 1 + 1 + 1 + (D.cnts (l[i].expr.args.map GExpr.toD) : Int) + 1))).setCell (off := o + i * 14 + 8) (by omega) (by omega) (.int .i64 (K + 1 + 1 + 1 + 1 + 1 + (D.cnts (l[i].expr.args.map GExpr.toD) : Int) + 1 + 1)))).below hbb3 hb4
      have hA4 := ((((hA3.set (j := 6) (by simp) (.int .i64 (K + 1 + 1 + 1 + 1 + 1 + (D.cnts (l[i].expr.args.map GExpr.toD) : Int)))).set (j := 7) (by simp) (.int .i64 (K + 1 + 1 + 1 + 1 + 1 + (D.cnts (l[i].expr.args.map GExpr.toD) : Int) + 1))).set (j := 8) (by simp) (.int .i64 (K + 1 + 1 + 1 + 1 + 1 + (D.cnts (l[i].expr.args.map GExpr.toD) : Int) + 1 + 1)))).below (Nat.lt_of_lt_of_le hbb hbW.size) hb4
      have z4 : ∀ off, w4.frozen? ⟨b, off, none⟩ = false := fun off => (hI4.froz b off hbb).trans (hFr.2 b hbf |>.2 off)
      clear hbW hb4 z3 hA3 hI3 hJ0_3 q6 q7 q8
      have q9 := hA4.nth 9 rfl
      have q10 := hA4.nth 10 rfl
      go_wp2_with fail
      have hbW := (hI4.setCell (off := o + i * 14 + 9) (by omega) (by omega) (.string (mtxt (K + 1 + 1 + 1 + 1 + 1 + (D.cnts (l[i].expr.args.map GExpr.toD) : Int) + 1 + 1 + 1))))
      refine (hM1 _ (List.getElem_mem hlt) _ g1 _ _ (hV1.inr hbW bn1 (fun x hx => notin_app (notin_nil) (D0_1 x hx))) (Fr1.inr (R.lt hV1) hbW) (by omega) (by omega)).mono ?_
      rintro e w5 ⟨rfl, hS1, hb5⟩
      have hI5 := (((hI4.setCell (off := o + i * 14 + 9) (by omega) (by omega) (.string (mtxt (K + 1 + 1 + 1 + 1 + 1 + (D.cnts (l[i].expr.args.map GExpr.toD) : Int) + 1 + 1 + 1))))).mono (F' := ([] ++ g0) ++ g1) (fun x hx => List.mem_append_left _ hx)).touch hbb hb5 (fun x hx => List.mem_append_right _ hx) bn1
      have hJ0_5 := (((hJ0_4.setCell (off := o + i * 14 + 9) (by omega) (by omega) (.string (mtxt (K + 1 + 1 + 1 + 1 + 1 + (D.cnts (l[i].expr.args.map GExpr.toD) : Int) + 1 + 1 + 1))))).mono (F' := [] ++ g1) (fun x hx => List.mem_append_left _ hx)).touch hbb3 hb5 (fun x hx => List.mem_append_right _ hx) bn1
      have hA5 := ((hA4.set (j := 9) (by simp) (.string (mtxt (K + 1 + 1 + 1 + 1 + 1 + (D.cnts (l[i].expr.args.map GExpr.toD) : Int) + 1 + 1 + 1))))).touch (Nat.lt_of_lt_of_le hbb hbW.size) hb5 bn1
      have hbb5 : b < w5.heap.size := Nat.lt_of_lt_of_le hbb hI5.size
      have hJ1_5 : Inr b (o + i * 14) (o + i * 14 + 14) [] w5 w5 := Inr.refl _ _ _ _ _
      have z5 : ∀ off, w5.frozen? ⟨b, off, none⟩ = false := fun off => (hI5.froz b off hbb).trans (hFr.2 b hbf |>.2 off)
      clear hbW hb5 z4 hA4 hI4 hJ0_4 q9 q10
      have q11 := hA5.nth 11 rfl
      go_wp2_with fail
      have hbW := hI5
      refine (hM2 _ (List.getElem_mem hlt) _ g2 _ _ (hV2.inr hbW bn2 (fun x hx => notin_app (notin_app (notin_nil) (D0_2 x hx)) (D1_2 x hx))) (Fr2.inr (R.lt hV2) hbW) (by omega) (by omega)).mono ?_
      rintro e w6 ⟨rfl, hS2, hb6⟩
      have hI6 := ((hI5).mono (F' := (([] ++ g0) ++ g1) ++ g2) (fun x hx => List.mem_append_left _ hx)).touch hbb hb6 (fun x hx => List.mem_append_right _ hx) bn2
      have hJ0_6 := ((hJ0_5).mono (F' := ([] ++ g1) ++ g2) (fun x hx => List.mem_append_left _ hx)).touch hbb3 hb6 (fun x hx => List.mem_append_right _ hx) bn2
      have hJ1_6 := ((hJ1_5).mono (F' := [] ++ g2) (fun x hx => List.mem_append_left _ hx)).touch hbb5 hb6 (fun x hx => List.mem_append_right _ hx) bn2
      have hA6 := (hA5).touch (Nat.lt_of_lt_of_le hbb hbW.size) hb6 bn2
      have hbb6 : b < w6.heap.size := Nat.lt_of_lt_of_le hbb hI6.size
      have hJ2_6 : Inr b (o + i * 14) (o + i * 14 + 14) [] w6 w6 := Inr.refl _ _ _ _ _
      have z6 : ∀ off, w6.frozen? ⟨b, off, none⟩ = false := fun off => (hI6.froz b off hbb).trans (hFr.2 b hbf |>.2 off)
      clear hbW hb6 z5 hA5 hI5 hJ0_5 hJ1_5 q11
      have q12 := hA6.nth 12 rfl
      go_wp2_with fail
      have hbW := hI6
      refine (hM3 _ (List.getElem_mem hlt) _ g3 _ _ (hV3.inr hbW bn3 (fun x hx => notin_app (notin_app (notin_app (notin_nil) (D0_3 x hx)) (D1_3 x hx)) (D2_3 x hx))) (Fr3.inr (R.lt hV3) hbW) (by omega) (by omega)).mono ?_
      rintro e w7 ⟨rfl, hS3, hb7⟩
      have hI7 := ((hI6).mono (F' := ((([] ++ g0) ++ g1) ++ g2) ++ g3) (fun x hx => List.mem_append_left _ hx)).touch hbb hb7 (fun x hx => List.mem_append_right _ hx) bn3
      have hJ0_7 := ((hJ0_6).mono (F' := (([] ++ g1) ++ g2) ++ g3) (fun x hx => List.mem_append_left _ hx)).touch hbb3 hb7 (fun x hx => List.mem_append_right _ hx) bn3
      have hJ1_7 := ((hJ1_6).mono (F' := ([] ++ g2) ++ g3) (fun x hx => List.mem_append_left _ hx)).touch hbb5 hb7 (fun x hx => List.mem_append_right _ hx) bn3
      have hJ2_7 := ((hJ2_6).mono (F' := [] ++ g3) (fun x hx => List.mem_append_left _ hx)).touch hbb6 hb7 (fun x hx => List.mem_append_right _ hx) bn3
      have hA7 := (hA6).touch (Nat.lt_of_lt_of_le hbb hbW.size) hb7 bn3
      have hbb7 : b < w7.heap.size := Nat.lt_of_lt_of_le hbb hI7.size
      have hJ3_7 : Inr b (o + i * 14) (o + i * 14 + 14) [] w7 w7 := Inr.refl _ _ _ _ _
      have z7 : ∀ off, w7.frozen? ⟨b, off, none⟩ = false := fun off => (hI7.froz b off hbb).trans (hFr.2 b hbf |>.2 off)
      clear hbW hb7 z6 hA6 hI6 hJ0_6 hJ1_6 hJ2_6 q12
      have q13 := hA7.nth 13 rfl
      go_wp2_with fail
      have hIe := (hI7.setCell (off := o + i * 14 + 13) (by omega) (by omega) (.int .i64 (K + 1 + 1 + 1 + 1 + 1 + (D.cnts (l[i].expr.args.map GExpr.toD) : Int) + 1 + 1 + 1 + 1 + (D.cnts (l[i].value.list.map GVal.toD) : Int) + (D.cnts (l[i].value.cols.map ls) : Int) + (D.cnts (l[i].value.rows.map GRow.toD) : Int))))
      have hAe := (hA7.set (j := 13) (by simp) (.int .i64 (K + 1 + 1 + 1 + 1 + 1 + (D.cnts (l[i].expr.args.map GExpr.toD) : Int) + 1 + 1 + 1 + 1 + (D.cnts (l[i].value.list.map GVal.toD) : Int) + (D.cnts (l[i].value.cols.map ls) : Int) + (D.cnts (l[i].value.rows.map GRow.toD) : Int))))
      have hSe0 := hS0.inr (hJ0_7.setCell (off := o + i * 14 + 13) (by omega) (by omega) (.int .i64 (K + 1 + 1 + 1 + 1 + 1 + (D.cnts (l[i].expr.args.map GExpr.toD) : Int) + 1 + 1 + 1 + 1 + (D.cnts (l[i].value.list.map GVal.toD) : Int) + (D.cnts (l[i].value.cols.map ls) : Int) + (D.cnts (l[i].value.rows.map GRow.toD) : Int)))) bn0 (fun x hx => notin_app (notin_app (notin_app (notin_nil) (D1_0 x hx)) (D2_0 x hx)) (D3_0 x hx))
      have hSe1 := hS1.inr (hJ1_7.setCell (off := o + i * 14 + 13) (by omega) (by omega) (.int .i64 (K + 1 + 1 + 1 + 1 + 1 + (D.cnts (l[i].expr.args.map GExpr.toD) : Int) + 1 + 1 + 1 + 1 + (D.cnts (l[i].value.list.map GVal.toD) : Int) + (D.cnts (l[i].value.cols.map ls) : Int) + (D.cnts (l[i].value.rows.map GRow.toD) : Int)))) bn1 (fun x hx => notin_app (notin_app (notin_nil) (D2_1 x hx)) (D3_1 x hx))
      have hSe2 := hS2.inr (hJ2_7.setCell (off := o + i * 14 + 13) (by omega) (by omega) (.int .i64 (K + 1 + 1 + 1 + 1 + 1 + (D.cnts (l[i].expr.args.map GExpr.toD) : Int) + 1 + 1 + 1 + 1 + (D.cnts (l[i].value.list.map GVal.toD) : Int) + (D.cnts (l[i].value.cols.map ls) : Int) + (D.cnts (l[i].value.rows.map GRow.toD) : Int)))) bn2 (fun x hx => notin_app (notin_nil) (D3_2 x hx))
      have hSe3 := hS3.inr (hJ3_7.setCell (off := o + i * 14 + 13) (by omega) (by omega) (.int .i64 (K + 1 + 1 + 1 + 1 + 1 + (D.cnts (l[i].expr.args.map GExpr.toD) : Int) + 1 + 1 + 1 + 1 + (D.cnts (l[i].value.list.map GVal.toD) : Int) + (D.cnts (l[i].value.cols.map ls) : Int) + (D.cnts (l[i].value.rows.map GRow.toD) : Int)))) bn3 (fun x hx => notin_nil)
      have hIf := hIe.mono (F' := g0 ++ (g1 ++ (g2 ++ (g3)))) (fun x hx => by
        simp only [List.mem_append, List.not_mem_nil, false_or] at hx
        rcases hx with ((h | h) | h) | h <;> simp [h])
      go_roundw
      case rel =>
        refine ⟨i + 1, K + 1 + 1 + 1 + 1 + 1 + (D.cnts (l[i].expr.args.map GExpr.toD) : Int) + 1 + 1 + 1 + 1 + (D.cnts (l[i].value.list.map GVal.toD) : Int) + (D.cnts (l[i].value.cols.map ls) : Int) + (D.cnts (l[i].value.rows.map GRow.toD) : Int) + 1, by omega, by go_num, rfl, ?_, ?_, hT.trans (hIf.toTouch hbf hfi)⟩
        · rw [hcn'.out]; have := hK'.out; push_cast; omega
        · rw [← part_succ _ k hi', List.getElem_map]
          exact hback _ _ _ (by rw [D.mk_sz]; exact GPart.sz_eq _) (GPart.mk_in (by have := hK'.out; push_cast; omega) (by have := hK'.out; push_cast; omega) (by have := hK'.out; push_cast; omega) (by have := hK'.out; push_cast; omega) (by have := hK'.out; push_cast; omega) (by have := hK'.out; push_cast; omega) (by have := hK'.out; push_cast; omega) (by have := hK'.out; push_cast; omega) (by have := hK'.out; push_cast; omega) (by have := hK'.out; push_cast; omega) (by have := hK'.out; push_cast; omega) (by have := hK'.out; push_cast; omega) (by have := hK'.out; push_cast; omega) (by have := hK'.out; push_cast; omega) hSe0 hSe1 hSe2 hSe3) hAe hIf
      case measure => (simp [intOf] <;> omega)
    · have hf := Lib.hid (show i = l.length by omega)
      have hK' := Lib.hid hK
      clear hK
      go_wp2_with fail
      go_ret
      have e1 := hf.out
      have e2 := hK'.out
      rw [List.take_of_length_le (by rw [List.length_map]; omega)] at e2
      rw [part_all _ _ (by rw [List.length_map]; omega)] at hSi
      exact ⟨ret_int e2, hSi, hT⟩

theorem PartS_mark (l : List GPart) : MarksSaid Tryz.prog 10 (l.map GPart.toD) := PartS_mark_of l (fun y _ => ExprS_mark _) (fun y _ => ValueS_mark _) (fun y _ => StringS_mark _) (fun y _ => RowS_mark _)

set_option maxRecDepth 20000 in
set_option maxHeartbeats 4000000 in
theorem IntS_held_of (l : List Int) : HeldsSaid Tryz.prog 12 (l.map li) := by
  intro w fp v k hS hk0 hk1
  obtain ⟨A, c, rfl, hl, hc⟩ := hS.form
  rw [D.mks_length, List.length_map] at hl hS ⊢
  have hm : l.length ≤ 9223372036854775807 := by unfold maxLen at hc; omega
  clear hl hc
  go_enter Tryz.func12, Tryz.ntmps12
  go_wp2_with fail
  go_loopw [1, 5] (fun kv iv wr => ∃ (i : Nat) (K : Int), i ≤ l.length ∧ iv = .int .i64 i ∧ kv = .int .i64 K ∧ K = k + D.cnts ((l.map li).take i) ∧ Below w.heap.size w wr) (fun _ iv _ => l.length - (intOf iv).toNat)
  case atStart => exact ⟨0, k, by omega, rfl, rfl, by simp [D.cnts_nil], Below.refl _ _⟩
  case round =>
    obtain ⟨i, K, hi, rfl, rfl, hK, hb⟩ := hrel
    by_cases hlt : i < l.length
    · have hi' : i < (l.map li).length := by rw [List.length_map]; exact hlt
      have hcn := D.cnts_take (l.map li) hi'
      have hle := D.cnts_take_le (l.map li) (i + 1)
      have hc1 : ((l.map li)[i]).cnt = 1 := by rw [List.getElem_map]; rfl
      rw [hc1] at hcn
      have hk2 : 0 ≤ K := by omega
      have hk3 : K + 1 ≤ 4611686018427387904 := by omega
      have hK' := Lib.hid hK
      have hcn' := Lib.hid hcn
      obtain ⟨b, o, fi, ci, rfl, hbb, hbf, hri, hfi, hat⟩ := hS.elem (s := 1) (fun d hd => part_sz li_szs k (l.map li).length d (by rw [part_all _ _ (Nat.le_refl _)]; exact hd)) (mks_get (l.map li) k hi')
      rw [List.getElem_map] at hri
      clear hK hcn hle
      obtain ⟨rfl, rfl⟩ := hri
      simp only [Nat.mul_one] at hat
      have q0 := hat.head
      have q0 : wr.cell? ⟨b, o + i, none⟩ = some (.int .i64 K) := by
        have q1 : w.cell? ⟨b, o + i, none⟩ = some (.int .i64 (k + (D.cnts ((l.map li).take i) : Int))) := hat.head
        rw [hb.cell (p := ⟨b, o + i, none⟩) hbb, hK'.out]
        exact q1
      clear hat
      go_wp2_with fail
      go_roundw
      case rel => exact ⟨i + 1, K + 1, by omega, by go_num, rfl, by rw [hcn'.out]; have := hK'.out; push_cast; omega, hb⟩
      case measure => (simp [intOf] <;> omega)
    · have hf := Lib.hid (show i = l.length by omega)
      have hK' := Lib.hid hK
      clear hK
      go_wp2_with fail
      go_ret
      have e1 := hf.out
      have e2 := hK'.out
      rw [List.take_of_length_le (by rw [List.length_map]; omega)] at e2
      exact ⟨ret_int e2, hb⟩

theorem IntS_held (l : List Int) : HeldsSaid Tryz.prog 12 (l.map li) := IntS_held_of l 

end Go.Proofs.YtnfamcepojpkjaaGreat
