/-
  The program's ApplyEdits returns what the reference's returns, for all arguments. No condition.
-/
import Derived.Test.YtokplliaejbbdaaFin
import Derived.Test.YtokplliaejbbdaaSz
import Derived.Test.YtokplliaejbbdaaTo
import Derived.Test.YtokplliaejbbdaaEq
import Derived.Test.YtokplliaejbbdaaMarks
import Derived.Test.YtokplliaejbbdaaBox
import Derived.Test.YtokplliaejbbdaaEdit7
namespace Go.Proofs.Ytokplliaejbbdaa
open Go.RowKit
set_option linter.unusedSimpArgs false
set_option linter.unusedVariables false


set_option maxRecDepth 40000 in
set_option maxHeartbeats 100000000 in
theorem law_FnExactApplyEdits (x0 : GNb) (fx0 : List Nat) (cx0 : List Value) (l1 : List GEdit) (fx1 : List Nat) (v1 : Value) (w : World) (hx0 : R w x0.toD fx0 cx0) (wx0 : x0.toD.wf) (hx1 : Sl w (l1.map GEdit.toD) fx1 v1) (wx1 : D.wfs (l1.map GEdit.toD)) :
    Calls Try.prog 5 #[.agg cx0.toArray, v1] w (TruePost w) := by
  obtain ⟨u0_0, g0_0, rfl, rfl, hU0_0⟩ := GNb.opened.1 hx0
  obtain ⟨A0_0, d0_0, rfl, hqa, hqb⟩ := hU0_0.formT
  clear hqa hqb hU0_0
  obtain ⟨A1, d1, rfl, hqa, hqb⟩ := hx1.formT
  clear hqa hqb
  go_enter Try.func5, Try.ntmps5
  go_wp2_with fail
  refine (x0.szSaid _ _ _ _ (hx0.below ((Below.refl _ _).alloc (Nat.le_refl _) _)) wx0 (by omega) (by omega)).mono ?_
  rintro e w1 ⟨r1, rfl, hr1, hqa, hqb, hb1⟩
  obtain ⟨rw1_0, hz1, L1⟩ := rows1 hb1
  have G1 : Below w.heap.size w w1 := L1
  have kc1_0 := rw1_0.cell
  clear L1 hb1 hz1
  go_wp2_with fail
  · go_ret
    exact ⟨rfl, G1⟩
  refine (EditS_szSaid l1 _ _ _ _ ((hx1.below G1)) wx1 (by omega) (by omega)).mono ?_
  rintro e w2 ⟨r2, rfl, hr2, hqa, hqb, hb2⟩
  have L2 : Below w1.heap.size w1 w2 := hb2
  have rr2_0 := rw1_0.below L2
  have G2 : Below w.heap.size w w2 := G1.trans (L2.mono G1.size)
  have kc2_0 := rr2_0.cell
  clear rw1_0 G1 kc1_0 L2 hb2
  go_wp2_with fail
  · go_ret
    exact ⟨rfl, G2⟩
  have hw0 : x0.toD.wt ≤ 1048576 := by have := hr1.le (by omega); have := hr2.le (by omega); omega
  have hw1 : (l1.map GEdit.toD).length + D.wts (l1.map GEdit.toD) ≤ 1048576 := by have := hr1.le (by omega); have := hr2.le (by omega); omega
  have hc0 : x0.toD.acnt ≤ 14680080 := by have := D.acnt_le x0.toD; have := D.cnt_le _ (x0.thin); have := GNb.sz_eq x0; omega
  have hn1 : l1.length ≤ 1048576 := by have := hw1; rw [List.length_map] at this; omega
  have hc1 : D.cnts (l1.map GEdit.toD) ≤ 14680064 := by have := D.cnts_le _ (GEdit.thins l1); omega
  have hn0 : x0.cells.length ≤ 1048576 := by have := hw0; simp [GNb.toD_eq, D.wt, D.wts] at this; omega
  obtain ⟨hal, hal2⟩ := appsN_len x0.cells l1 l1.length (Nat.le_refl _)
  have hcr : (GNb.toD ⟨(appsN x0.cells l1 l1.length).1⟩).acnt ≤ 14680080 := by have h2 := cnts_cells (appsN x0.cells l1 l1.length).1; simp only [GNb.toD_eq, D.acnt, D.acnts]; omega
  have hcr2 : D.cnts ((appsN x0.cells l1 l1.length).2.map li) ≤ 1048576 := by rw [cnts_ints]; omega
  clear hal hal2
  clear hr1 hr2
  refine (x0.toSaid _ _ _ ((hx0.below G2)) hw0).mono ?_
  rintro e w3 ⟨f3, cc3, rfl, S3, F3, hb3⟩
  obtain ⟨u_t10, g_t10, hqf, rfl, hU_t10⟩ := GNb.opened.1 S3
  clear hqf
  obtain ⟨A_t10, d_t10, rfl, hqa, hqb⟩ := hU_t10.formT
  clear hqa hqb hU_t10
  have L3 : Below w2.heap.size w2 w3 := hb3
  have rr3_0 := rr2_0.below L3
  have F3b := F3.mono (base' := w2.heap.size) (Nat.le_refl _)
  have nb_0_t1 : w.heap.size ∉ f3 := fun hy => Nat.lt_irrefl _ (Nat.lt_of_lt_of_le rr2_0.lt ((F3b.2 _ hy).1))
  have G3 : Below w.heap.size w w3 := G2.trans (L3.mono G2.size)
  have F3c := F3b.mono (base' := w.heap.size) (G2.size)
  have kc3_0 := rr3_0.cell
  clear rr2_0 G2 F3 F3b kc2_0 L3 hb3
  go_wp2_with fail
  refine (EditS_toSaid l1 _ _ _ ((hx1.below G3)) hw1).mono ?_
  rintro e w4 ⟨f4, vv4, rfl, S4, F4, hb4⟩
  obtain ⟨A_t2, d_t2, rfl, hqa, hqb⟩ := S4.formT
  clear hqa hqb
  have L4 : Below w3.heap.size w3 w4 := hb4
  have rr4_0 := rr3_0.below L4
  have F4b := F4.mono (base' := w3.heap.size) (Nat.le_refl _)
  have D_t1_t2 : ∀ x ∈ f3, x ∉ f4 := fun x hx hy => Nat.lt_irrefl _ (Nat.lt_of_lt_of_le (R.lt S3 x hx) ((F4b.2 x hy).1))
  have nb_0_t2 : w.heap.size ∉ f4 := fun hy => Nat.lt_irrefl _ (Nat.lt_of_lt_of_le rr3_0.lt ((F4b.2 _ hy).1))
  have G4 : Below w.heap.size w w4 := G3.trans (L4.mono G3.size)
  have F4c := F4b.mono (base' := w.heap.size) (G3.size)
  have S4_t1 := S3.below L4
  have F4_t1 := F3c.below (R.lt S3) L4
  have kc4_0 := rr4_0.cell
  clear rr3_0 G3 F4 F4b S3 F3c kc3_0 L4 hb4
  go_wp2_with fail
  refine (apps_spec_law x0 l1 _ _ _ _ _ (S4_t1) (S4) hn0 hn1 wx0.1 wx1).mono ?_
  rintro e w5 ⟨f5_0, vv5_0, f5_1, vv5_1, rfl, S5_0, F5_0, S5_1, F5_1, hb5⟩
  obtain ⟨u_w00, g_w00, hqf, rfl, hU_w00⟩ := GNb.opened.1 S5_0
  clear hqf
  obtain ⟨A_w00, d_w00, rfl, hqa, hqb⟩ := hU_w00.formT
  clear hqa hqb hU_w00
  obtain ⟨A_w1, d_w1, rfl, hqa, hqb⟩ := S5_1.formT
  clear hqa hqb
  have L5 : Below w4.heap.size w4 w5 := hb5
  have rr5_0 := rr4_0.below L5
  have F5_0b := F5_0.mono (base' := w4.heap.size) (Nat.le_refl _)
  have nb_0_w0 : w.heap.size ∉ f5_0 := fun hy => Nat.lt_irrefl _ (Nat.lt_of_lt_of_le rr4_0.lt ((F5_0b.2 _ hy).1))
  have F5_1b := F5_1.mono (base' := w4.heap.size) (Nat.le_refl _)
  have nb_0_w1 : w.heap.size ∉ f5_1 := fun hy => Nat.lt_irrefl _ (Nat.lt_of_lt_of_le rr4_0.lt ((F5_1b.2 _ hy).1))
  have G5 : Below w.heap.size w w5 := G4.trans (L5.mono G4.size)
  have F5_0c := F5_0b.mono (base' := w.heap.size) (G4.size)
  have F5_1c := F5_1b.mono (base' := w.heap.size) (G4.size)
  have kc5_0 := rr5_0.cell
  have kj5_0 := fun o => (rr5_0.below ((Below.refl w5.heap.size w5).alloc (Nat.le_refl _) o)).cell
  clear rr4_0 G4 F5_0 F5_0b F5_1 F5_1b kc4_0 L5 hb5
  have nb_1_w0 : w5.heap.size ∉ f5_0 := fun hy => by have := R.lt S5_0 _ hy; omega
  have nb_1_w1 : w5.heap.size ∉ f5_1 := fun hy => by have := R.lt S5_1 _ hy; omega
  go_wp2_with fail
  refine (x0.toSaid _ _ _ ((hx0.below G5).below ((Below.refl _ _).alloc (Nat.le_refl _) _)) hw0).mono ?_
  rintro e w6 ⟨f6, cc6, rfl, S6, F6, hb6⟩
  obtain ⟨u_x00, g_x00, hqf, rfl, hU_x00⟩ := GNb.opened.1 S6
  clear hqf
  obtain ⟨A_x00, d_x00, rfl, hqa, hqb⟩ := hU_x00.formT
  clear hqa hqb hU_x00
  obtain ⟨rw6_0, hz6, L6⟩ := rows1 hb6
  have rr6_0 := rr5_0.below L6
  have F6b := F6.mono (base' := w5.heap.size) (by simp; try omega)
  have D_w0_x0 : ∀ x ∈ f5_0, x ∉ f6 := fun x hx hy => Nat.lt_irrefl _ (Nat.lt_of_lt_of_le (R.lt S5_0 x hx) ((F6b.2 x hy).1))
  have D_w1_x0 : ∀ x ∈ f5_1, x ∉ f6 := fun x hx hy => Nat.lt_irrefl _ (Nat.lt_of_lt_of_le (R.lt S5_1 x hx) ((F6b.2 x hy).1))
  have nb_0_x0 : w.heap.size ∉ f6 := fun hy => Nat.lt_irrefl _ (Nat.lt_of_lt_of_le rr5_0.lt ((F6b.2 _ hy).1))
  have nb_1_x0 : w5.heap.size ∉ f6 := fun hy => by have := (F6.2 _ hy).1; simp at this; try omega
  have G6 : Below w.heap.size w w6 := G5.trans (L6.mono G5.size)
  have F6c := F6b.mono (base' := w.heap.size) (G5.size)
  have S6_w0 := S5_0.below L6
  have F6_w0 := F5_0c.below (R.lt S5_0) L6
  have S6_w1 := S5_1.below L6
  have F6_w1 := F5_1c.below (R.lt S5_1) L6
  have kc6_0 := rr6_0.cell
  have kj6_0 := fun o => (rr6_0.below ((Below.refl w6.heap.size w6).alloc (Nat.le_refl _) o)).cell
  have kc6_1 := rw6_0.cell
  have kj6_1 := fun o => (rw6_0.below ((Below.refl w6.heap.size w6).alloc (Nat.le_refl _) o)).cell
  clear rr5_0 G5 F6 F6b S5_0 F5_0c S5_1 F5_1c kc5_0 kj5_0 L6 hb6 hz6
  have nb_2_w0 : w6.heap.size ∉ f5_0 := fun hy => by have := R.lt S6_w0 _ hy; omega
  have nb_2_w1 : w6.heap.size ∉ f5_1 := fun hy => by have := R.lt S6_w1 _ hy; omega
  have nb_2_x0 : w6.heap.size ∉ f6 := fun hy => by have := R.lt S6 _ hy; omega
  go_wp2_with fail
  refine (EditS_toSaid l1 _ _ _ ((hx1.below G6).below ((Below.refl _ _).alloc (Nat.le_refl _) _)) hw1).mono ?_
  rintro e w7 ⟨f7, vv7, rfl, S7, F7, hb7⟩
  obtain ⟨A_x1, d_x1, rfl, hqa, hqb⟩ := S7.formT
  clear hqa hqb
  obtain ⟨rw7_0, hz7, L7⟩ := rows1 hb7
  have rr7_0 := rr6_0.below L7
  have rr7_1 := rw6_0.below L7
  have F7b := F7.mono (base' := w6.heap.size) (by simp; try omega)
  have D_w0_x1 : ∀ x ∈ f5_0, x ∉ f7 := fun x hx hy => Nat.lt_irrefl _ (Nat.lt_of_lt_of_le (R.lt S6_w0 x hx) ((F7b.2 x hy).1))
  have D_w1_x1 : ∀ x ∈ f5_1, x ∉ f7 := fun x hx hy => Nat.lt_irrefl _ (Nat.lt_of_lt_of_le (R.lt S6_w1 x hx) ((F7b.2 x hy).1))
  have D_x0_x1 : ∀ x ∈ f6, x ∉ f7 := fun x hx hy => Nat.lt_irrefl _ (Nat.lt_of_lt_of_le (R.lt S6 x hx) ((F7b.2 x hy).1))
  have nb_0_x1 : w.heap.size ∉ f7 := fun hy => Nat.lt_irrefl _ (Nat.lt_of_lt_of_le rr6_0.lt ((F7b.2 _ hy).1))
  have nb_1_x1 : w5.heap.size ∉ f7 := fun hy => Nat.lt_irrefl _ (Nat.lt_of_lt_of_le rw6_0.lt ((F7b.2 _ hy).1))
  have nb_2_x1 : w6.heap.size ∉ f7 := fun hy => by have := (F7.2 _ hy).1; simp at this; try omega
  have G7 : Below w.heap.size w w7 := G6.trans (L7.mono G6.size)
  have F7c := F7b.mono (base' := w.heap.size) (G6.size)
  have S7_w0 := S6_w0.below L7
  have F7_w0 := F6_w0.below (R.lt S6_w0) L7
  have S7_w1 := S6_w1.below L7
  have F7_w1 := F6_w1.below (R.lt S6_w1) L7
  have S7_x0 := S6.below L7
  have F7_x0 := F6c.below (R.lt S6) L7
  have kc7_0 := rr7_0.cell
  have kc7_1 := rr7_1.cell
  have kc7_2 := rw7_0.cell
  clear rr6_0 rw6_0 G6 F7 F7b S6_w0 F6_w0 S6_w1 F6_w1 S6 F6c kc6_0 kj6_0 kc6_1 kj6_1 L7 hb7 hz7
  go_wp2_with fail
  refine (apps_impl_law x0 l1 _ _ _ _ _ (S7_x0) (S7) hn0 hn1 wx0.1 wx1).mono ?_
  rintro e w8 ⟨f8_0, vv8_0, f8_1, vv8_1, rfl, S8_0, F8_0, S8_1, F8_1, dis8, hb8⟩
  have D_g0_g1 := dis8
  obtain ⟨u_g00, g_g00, hqf, rfl, hU_g00⟩ := GNb.opened.1 S8_0
  clear hqf
  obtain ⟨A_g00, d_g00, rfl, hqa, hqb⟩ := hU_g00.formT
  clear hqa hqb hU_g00
  obtain ⟨A_g1, d_g1, rfl, hqa, hqb⟩ := S8_1.formT
  clear hqa hqb
  have L8 : Below w7.heap.size w7 w8 := hb8
  have rr8_0 := rr7_0.below L8
  have rr8_1 := rr7_1.below L8
  have rr8_2 := rw7_0.below L8
  have F8_0b := F8_0.mono (base' := w7.heap.size) (Nat.le_refl _)
  have D_w0_g0 : ∀ x ∈ f5_0, x ∉ f8_0 := fun x hx hy => Nat.lt_irrefl _ (Nat.lt_of_lt_of_le (R.lt S7_w0 x hx) ((F8_0b.2 x hy).1))
  have D_w1_g0 : ∀ x ∈ f5_1, x ∉ f8_0 := fun x hx hy => Nat.lt_irrefl _ (Nat.lt_of_lt_of_le (R.lt S7_w1 x hx) ((F8_0b.2 x hy).1))
  have D_x0_g0 : ∀ x ∈ f6, x ∉ f8_0 := fun x hx hy => Nat.lt_irrefl _ (Nat.lt_of_lt_of_le (R.lt S7_x0 x hx) ((F8_0b.2 x hy).1))
  have D_x1_g0 : ∀ x ∈ f7, x ∉ f8_0 := fun x hx hy => Nat.lt_irrefl _ (Nat.lt_of_lt_of_le (R.lt S7 x hx) ((F8_0b.2 x hy).1))
  have nb_0_g0 : w.heap.size ∉ f8_0 := fun hy => Nat.lt_irrefl _ (Nat.lt_of_lt_of_le rr7_0.lt ((F8_0b.2 _ hy).1))
  have nb_1_g0 : w5.heap.size ∉ f8_0 := fun hy => Nat.lt_irrefl _ (Nat.lt_of_lt_of_le rr7_1.lt ((F8_0b.2 _ hy).1))
  have nb_2_g0 : w6.heap.size ∉ f8_0 := fun hy => Nat.lt_irrefl _ (Nat.lt_of_lt_of_le rw7_0.lt ((F8_0b.2 _ hy).1))
  have F8_1b := F8_1.mono (base' := w7.heap.size) (Nat.le_refl _)
  have D_w0_g1 : ∀ x ∈ f5_0, x ∉ f8_1 := fun x hx hy => Nat.lt_irrefl _ (Nat.lt_of_lt_of_le (R.lt S7_w0 x hx) ((F8_1b.2 x hy).1))
  have D_w1_g1 : ∀ x ∈ f5_1, x ∉ f8_1 := fun x hx hy => Nat.lt_irrefl _ (Nat.lt_of_lt_of_le (R.lt S7_w1 x hx) ((F8_1b.2 x hy).1))
  have D_x0_g1 : ∀ x ∈ f6, x ∉ f8_1 := fun x hx hy => Nat.lt_irrefl _ (Nat.lt_of_lt_of_le (R.lt S7_x0 x hx) ((F8_1b.2 x hy).1))
  have D_x1_g1 : ∀ x ∈ f7, x ∉ f8_1 := fun x hx hy => Nat.lt_irrefl _ (Nat.lt_of_lt_of_le (R.lt S7 x hx) ((F8_1b.2 x hy).1))
  have nb_0_g1 : w.heap.size ∉ f8_1 := fun hy => Nat.lt_irrefl _ (Nat.lt_of_lt_of_le rr7_0.lt ((F8_1b.2 _ hy).1))
  have nb_1_g1 : w5.heap.size ∉ f8_1 := fun hy => Nat.lt_irrefl _ (Nat.lt_of_lt_of_le rr7_1.lt ((F8_1b.2 _ hy).1))
  have nb_2_g1 : w6.heap.size ∉ f8_1 := fun hy => Nat.lt_irrefl _ (Nat.lt_of_lt_of_le rw7_0.lt ((F8_1b.2 _ hy).1))
  have G8 : Below w.heap.size w w8 := G7.trans (L8.mono G7.size)
  have F8_0c := F8_0b.mono (base' := w.heap.size) (G7.size)
  have F8_1c := F8_1b.mono (base' := w.heap.size) (G7.size)
  have S8_w0 := S7_w0.below L8
  have F8_w0 := F7_w0.below (R.lt S7_w0) L8
  have S8_w1 := S7_w1.below L8
  have F8_w1 := F7_w1.below (R.lt S7_w1) L8
  have S8_x0 := S7_x0.below L8
  have F8_x0 := F7_x0.below (R.lt S7_x0) L8
  have S8_x1 := S7.below L8
  have F8_x1 := F7c.below (R.lt S7) L8
  have kc8_0 := rr8_0.cell
  have kj8_0 := fun o => (rr8_0.below ((Below.refl w8.heap.size w8).alloc (Nat.le_refl _) o)).cell
  have kc8_1 := rr8_1.cell
  have kj8_1 := fun o => (rr8_1.below ((Below.refl w8.heap.size w8).alloc (Nat.le_refl _) o)).cell
  have kc8_2 := rr8_2.cell
  have kj8_2 := fun o => (rr8_2.below ((Below.refl w8.heap.size w8).alloc (Nat.le_refl _) o)).cell
  clear rr7_0 rr7_1 rw7_0 G7 F8_0 F8_0b F8_1 F8_1b S7_w0 F7_w0 S7_w1 F7_w1 S7_x0 F7_x0 S7 F7c kc7_0 kc7_1 kc7_2 L8 hb8
  have nb_3_w0 : w8.heap.size ∉ f5_0 := fun hy => by have := R.lt S8_w0 _ hy; omega
  have nb_3_w1 : w8.heap.size ∉ f5_1 := fun hy => by have := R.lt S8_w1 _ hy; omega
  have nb_3_x0 : w8.heap.size ∉ f6 := fun hy => by have := R.lt S8_x0 _ hy; omega
  have nb_3_x1 : w8.heap.size ∉ f7 := fun hy => by have := R.lt S8_x1 _ hy; omega
  have nb_3_g0 : w8.heap.size ∉ f8_0 := fun hy => by have := R.lt S8_0 _ hy; omega
  have nb_3_g1 : w8.heap.size ∉ f8_1 := fun hy => by have := R.lt S8_1 _ hy; omega
  go_wp2_with fail
  refine (GNb.eqSaid (⟨(appsN x0.cells l1 l1.length).1⟩) _ _ _ _ _ (S8_0.below ((Below.refl _ _).alloc (Nat.le_refl _) _)) (S8_w0.below ((Below.refl _ _).alloc (Nat.le_refl _) _))).mono ?_
  rintro e w9 ⟨rfl, hb9⟩
  obtain ⟨rw9_0, hz9, L9⟩ := rows1 hb9
  have rr9_0 := rr8_0.below L9
  have rr9_1 := rr8_1.below L9
  have rr9_2 := rr8_2.below L9
  have G9 : Below w.heap.size w w9 := G8.trans (L9.mono G8.size)
  have S9_w0 := S8_w0.below L9
  have F9_w0 := F8_w0.below (R.lt S8_w0) L9
  have S9_w1 := S8_w1.below L9
  have F9_w1 := F8_w1.below (R.lt S8_w1) L9
  have S9_x0 := S8_x0.below L9
  have F9_x0 := F8_x0.below (R.lt S8_x0) L9
  have S9_x1 := S8_x1.below L9
  have F9_x1 := F8_x1.below (R.lt S8_x1) L9
  have S9_g0 := S8_0.below L9
  have F9_g0 := F8_0c.below (R.lt S8_0) L9
  have S9_g1 := S8_1.below L9
  have F9_g1 := F8_1c.below (R.lt S8_1) L9
  have kc9_0 := rr9_0.cell
  have kc9_1 := rr9_1.cell
  have kc9_2 := rr9_2.cell
  have kc9_3 := rw9_0.cell
  clear rr8_0 rr8_1 rr8_2 G8 S8_w0 F8_w0 S8_w1 F8_w1 S8_x0 F8_x0 S8_x1 F8_x1 S8_0 F8_0c S8_1 F8_1c kc8_0 kj8_0 kc8_1 kj8_1 kc8_2 kj8_2 L9 hb9 hz9
  go_wp2_with fail
  refine (IntS_eqSaid ((appsN x0.cells l1 l1.length).2) _ _ _ _ _ (S9_g1) (S9_w1)).mono ?_
  rintro e w10 ⟨rfl, hb10⟩
  have L10 : Below w9.heap.size w9 w10 := hb10
  have rr10_0 := rr9_0.below L10
  have rr10_1 := rr9_1.below L10
  have rr10_2 := rr9_2.below L10
  have rr10_3 := rw9_0.below L10
  have G10 : Below w.heap.size w w10 := G9.trans (L10.mono G9.size)
  have S10_w0 := S9_w0.below L10
  have F10_w0 := F9_w0.below (R.lt S9_w0) L10
  have S10_w1 := S9_w1.below L10
  have F10_w1 := F9_w1.below (R.lt S9_w1) L10
  have S10_x0 := S9_x0.below L10
  have F10_x0 := F9_x0.below (R.lt S9_x0) L10
  have S10_x1 := S9_x1.below L10
  have F10_x1 := F9_x1.below (R.lt S9_x1) L10
  have S10_g0 := S9_g0.below L10
  have F10_g0 := F9_g0.below (R.lt S9_g0) L10
  have S10_g1 := S9_g1.below L10
  have F10_g1 := F9_g1.below (R.lt S9_g1) L10
  have kc10_0 := rr10_0.cell
  have kc10_1 := rr10_1.cell
  have kc10_2 := rr10_2.cell
  have kc10_3 := rr10_3.cell
  clear rr9_0 rr9_1 rr9_2 rw9_0 G9 S9_w0 F9_w0 S9_w1 F9_w1 S9_x0 F9_x0 S9_x1 F9_x1 S9_g0 F9_g0 S9_g1 F9_g1 kc9_0 kc9_1 kc9_2 kc9_3 L10 hb10
  go_wp2_with fail
  have tok1 : True := trivial
  have tok2 : True := trivial
  go_region_held3 (fun w' => w'.cell? ⟨w.heap.size, 0, none⟩ = some (.slice A0_0 x0.cells.length d0_0) ∧ w'.cell? ⟨w6.heap.size, 0, none⟩ = some (.slice A_x00 (x0).cells.length d_x00)) (go_keep)
    (first
    | (go_at_call 9; have _t := tok1; refine (x0.toSaid _ _ _ ((hx0.below G10).below (Below.refl _ _).drew) hw0).mono ?_; rintro e w11 ⟨f11, cc11, rfl, S11, F11, hb11⟩; obtain ⟨u_t50, g_t50, hqf, rfl, hU_t50⟩ := GNb.opened.1 S11; clear hqf; obtain ⟨A_t50, d_t50, rfl, hqa, hqb⟩ := hU_t50.formT; clear hqa hqb hU_t50; have hb11 := (Below.refl _ _).drew.trans hb11; have L11 : Below w10.heap.size w10 w11 := hb11; have rr11_0 := rr10_0.below L11; have rr11_1 := rr10_1.below L11; have rr11_2 := rr10_2.below L11; have rr11_3 := rr10_3.below L11; have F11b := F11.mono (base' := w10.heap.size) (Nat.le_refl _); have D_w0_t5 : ∀ x ∈ f5_0, x ∉ f11 := fun x hx hy => Nat.lt_irrefl _ (Nat.lt_of_lt_of_le (R.lt S10_w0 x hx) ((F11b.2 x hy).1)); have D_w1_t5 : ∀ x ∈ f5_1, x ∉ f11 := fun x hx hy => Nat.lt_irrefl _ (Nat.lt_of_lt_of_le (R.lt S10_w1 x hx) ((F11b.2 x hy).1)); have D_x0_t5 : ∀ x ∈ f6, x ∉ f11 := fun x hx hy => Nat.lt_irrefl _ (Nat.lt_of_lt_of_le (R.lt S10_x0 x hx) ((F11b.2 x hy).1)); have D_x1_t5 : ∀ x ∈ f7, x ∉ f11 := fun x hx hy => Nat.lt_irrefl _ (Nat.lt_of_lt_of_le (R.lt S10_x1 x hx) ((F11b.2 x hy).1)); have D_g0_t5 : ∀ x ∈ f8_0, x ∉ f11 := fun x hx hy => Nat.lt_irrefl _ (Nat.lt_of_lt_of_le (R.lt S10_g0 x hx) ((F11b.2 x hy).1)); have D_g1_t5 : ∀ x ∈ f8_1, x ∉ f11 := fun x hx hy => Nat.lt_irrefl _ (Nat.lt_of_lt_of_le (R.lt S10_g1 x hx) ((F11b.2 x hy).1)); have nb_0_t5 : w.heap.size ∉ f11 := fun hy => Nat.lt_irrefl _ (Nat.lt_of_lt_of_le rr10_0.lt ((F11b.2 _ hy).1)); have nb_1_t5 : w5.heap.size ∉ f11 := fun hy => Nat.lt_irrefl _ (Nat.lt_of_lt_of_le rr10_1.lt ((F11b.2 _ hy).1)); have nb_2_t5 : w6.heap.size ∉ f11 := fun hy => Nat.lt_irrefl _ (Nat.lt_of_lt_of_le rr10_2.lt ((F11b.2 _ hy).1)); have nb_3_t5 : w8.heap.size ∉ f11 := fun hy => Nat.lt_irrefl _ (Nat.lt_of_lt_of_le rr10_3.lt ((F11b.2 _ hy).1)); have G11 : Below w.heap.size w w11 := G10.trans (L11.mono G10.size); have F11c := F11b.mono (base' := w.heap.size) (G10.size); have S11_w0 := S10_w0.below L11; have F11_w0 := F10_w0.below (R.lt S10_w0) L11; have S11_w1 := S10_w1.below L11; have F11_w1 := F10_w1.below (R.lt S10_w1) L11; have S11_x0 := S10_x0.below L11; have F11_x0 := F10_x0.below (R.lt S10_x0) L11; have S11_x1 := S10_x1.below L11; have F11_x1 := F10_x1.below (R.lt S10_x1) L11; have S11_g0 := S10_g0.below L11; have F11_g0 := F10_g0.below (R.lt S10_g0) L11; have S11_g1 := S10_g1.below L11; have F11_g1 := F10_g1.below (R.lt S10_g1) L11; have kc11_0 := rr11_0.cell; have kc11_1 := rr11_1.cell; have kc11_2 := rr11_2.cell; have kc11_3 := rr11_3.cell; clear rr10_0 rr10_1 rr10_2 rr10_3 G10 F11 F11b S10_w0 F10_w0 S10_w1 F10_w1 S10_x0 F10_x0 S10_x1 F10_x1 S10_g0 F10_g0 S10_g1 F10_g1 kc10_0 kc10_1 kc10_2 kc10_3 L11 hb11; clear tok1)
    | (go_at_call 12; have _t := tok2; refine (GNb.eqSaid (x0) _ _ _ _ _ (S11_x0) (S11)).mono ?_; rintro e w12 ⟨rfl, hb12⟩; have L12 : Below w11.heap.size w11 w12 := hb12; have rr12_0 := rr11_0.below L12; have rr12_1 := rr11_1.below L12; have rr12_2 := rr11_2.below L12; have rr12_3 := rr11_3.below L12; have G12 : Below w.heap.size w w12 := G11.trans (L12.mono G11.size); have S12_w0 := S11_w0.below L12; have F12_w0 := F11_w0.below (R.lt S11_w0) L12; have S12_w1 := S11_w1.below L12; have F12_w1 := F11_w1.below (R.lt S11_w1) L12; have S12_x0 := S11_x0.below L12; have F12_x0 := F11_x0.below (R.lt S11_x0) L12; have S12_x1 := S11_x1.below L12; have F12_x1 := F11_x1.below (R.lt S11_x1) L12; have S12_g0 := S11_g0.below L12; have F12_g0 := F11_g0.below (R.lt S11_g0) L12; have S12_g1 := S11_g1.below L12; have F12_g1 := F11_g1.below (R.lt S11_g1) L12; have kc12_0 := rr12_0.cell; have kc12_1 := rr12_1.cell; have kc12_2 := rr12_2.cell; have kc12_3 := rr12_3.cell; clear rr11_0 rr11_1 rr11_2 rr11_3 G11 S11_w0 F11_w0 S11_w1 F11_w1 S11_x0 F11_x0 S11_x1 F11_x1 S11_g0 F11_g0 S11_g1 F11_g1 kc11_0 kc11_1 kc11_2 kc11_3 L12 hb12; clear tok2))
  go_wp2_with fail
  refine (EditS_toSaid l1 _ _ _ ((hx1.below G12)) hw1).mono ?_
  rintro e w13 ⟨f13, vv13, rfl, S13, F13, hb13⟩
  obtain ⟨A_t6, d_t6, rfl, hqa, hqb⟩ := S13.formT
  clear hqa hqb
  have L13 : Below w12.heap.size w12 w13 := hb13
  have rr13_0 := rr12_0.below L13
  have rr13_1 := rr12_1.below L13
  have rr13_2 := rr12_2.below L13
  have rr13_3 := rr12_3.below L13
  have F13b := F13.mono (base' := w12.heap.size) (Nat.le_refl _)
  have D_w0_t6 : ∀ x ∈ f5_0, x ∉ f13 := fun x hx hy => Nat.lt_irrefl _ (Nat.lt_of_lt_of_le (R.lt S12_w0 x hx) ((F13b.2 x hy).1))
  have D_w1_t6 : ∀ x ∈ f5_1, x ∉ f13 := fun x hx hy => Nat.lt_irrefl _ (Nat.lt_of_lt_of_le (R.lt S12_w1 x hx) ((F13b.2 x hy).1))
  have D_x0_t6 : ∀ x ∈ f6, x ∉ f13 := fun x hx hy => Nat.lt_irrefl _ (Nat.lt_of_lt_of_le (R.lt S12_x0 x hx) ((F13b.2 x hy).1))
  have D_x1_t6 : ∀ x ∈ f7, x ∉ f13 := fun x hx hy => Nat.lt_irrefl _ (Nat.lt_of_lt_of_le (R.lt S12_x1 x hx) ((F13b.2 x hy).1))
  have D_g0_t6 : ∀ x ∈ f8_0, x ∉ f13 := fun x hx hy => Nat.lt_irrefl _ (Nat.lt_of_lt_of_le (R.lt S12_g0 x hx) ((F13b.2 x hy).1))
  have D_g1_t6 : ∀ x ∈ f8_1, x ∉ f13 := fun x hx hy => Nat.lt_irrefl _ (Nat.lt_of_lt_of_le (R.lt S12_g1 x hx) ((F13b.2 x hy).1))
  have nb_0_t6 : w.heap.size ∉ f13 := fun hy => Nat.lt_irrefl _ (Nat.lt_of_lt_of_le rr12_0.lt ((F13b.2 _ hy).1))
  have nb_1_t6 : w5.heap.size ∉ f13 := fun hy => Nat.lt_irrefl _ (Nat.lt_of_lt_of_le rr12_1.lt ((F13b.2 _ hy).1))
  have nb_2_t6 : w6.heap.size ∉ f13 := fun hy => Nat.lt_irrefl _ (Nat.lt_of_lt_of_le rr12_2.lt ((F13b.2 _ hy).1))
  have nb_3_t6 : w8.heap.size ∉ f13 := fun hy => Nat.lt_irrefl _ (Nat.lt_of_lt_of_le rr12_3.lt ((F13b.2 _ hy).1))
  have G13 : Below w.heap.size w w13 := G12.trans (L13.mono G12.size)
  have F13c := F13b.mono (base' := w.heap.size) (G12.size)
  have S13_w0 := S12_w0.below L13
  have F13_w0 := F12_w0.below (R.lt S12_w0) L13
  have S13_w1 := S12_w1.below L13
  have F13_w1 := F12_w1.below (R.lt S12_w1) L13
  have S13_x0 := S12_x0.below L13
  have F13_x0 := F12_x0.below (R.lt S12_x0) L13
  have S13_x1 := S12_x1.below L13
  have F13_x1 := F12_x1.below (R.lt S12_x1) L13
  have S13_g0 := S12_g0.below L13
  have F13_g0 := F12_g0.below (R.lt S12_g0) L13
  have S13_g1 := S12_g1.below L13
  have F13_g1 := F12_g1.below (R.lt S12_g1) L13
  have kc13_0 := rr13_0.cell
  have kc13_1 := rr13_1.cell
  have kc13_2 := rr13_2.cell
  have kc13_3 := rr13_3.cell
  clear rr12_0 rr12_1 rr12_2 rr12_3 G12 F13 F13b S12_w0 F12_w0 S12_w1 F12_w1 S12_x0 F12_x0 S12_x1 F12_x1 S12_g0 F12_g0 S12_g1 F12_g1 kc12_0 kc12_1 kc12_2 kc12_3 L13 hb13
  go_wp2_with fail
  refine (EditS_eqSaid (l1) _ _ _ _ _ (S13_x1) (S13)).mono ?_
  rintro e w14 ⟨rfl, hb14⟩
  have L14 : Below w13.heap.size w13 w14 := hb14
  have rr14_0 := rr13_0.below L14
  have rr14_1 := rr13_1.below L14
  have rr14_2 := rr13_2.below L14
  have rr14_3 := rr13_3.below L14
  have G14 : Below w.heap.size w w14 := G13.trans (L14.mono G13.size)
  have S14_w0 := S13_w0.below L14
  have F14_w0 := F13_w0.below (R.lt S13_w0) L14
  have S14_w1 := S13_w1.below L14
  have F14_w1 := F13_w1.below (R.lt S13_w1) L14
  have S14_x0 := S13_x0.below L14
  have F14_x0 := F13_x0.below (R.lt S13_x0) L14
  have S14_x1 := S13_x1.below L14
  have F14_x1 := F13_x1.below (R.lt S13_x1) L14
  have S14_g0 := S13_g0.below L14
  have F14_g0 := F13_g0.below (R.lt S13_g0) L14
  have S14_g1 := S13_g1.below L14
  have F14_g1 := F13_g1.below (R.lt S13_g1) L14
  have kc14_0 := rr14_0.cell
  have kc14_1 := rr14_1.cell
  have kc14_2 := rr14_2.cell
  have kc14_3 := rr14_3.cell
  clear rr13_0 rr13_1 rr13_2 rr13_3 G13 S13_w0 F13_w0 S13_w1 F13_w1 S13_x0 F13_x0 S13_x1 F13_x1 S13_g0 F13_g0 S13_g1 F13_g1 kc13_0 kc13_1 kc13_2 kc13_3 L14 hb14
  go_wp2_with fail
  refine (GNb.mark (x0) _ _ _ _ (S14_x0) (F14_x0.mono (Nat.zero_le _)) (by omega) (by omega)).mono ?_
  rintro e w15 ⟨rfl, SM15, hb15⟩
  have rr15_0 := rr14_0.touch hb15 nb_0_x0
  have rr15_1 := rr14_1.touch hb15 nb_1_x0
  have rr15_2 := rr14_2.touch hb15 nb_2_x0
  have rr15_3 := rr14_3.touch hb15 nb_3_x0
  have G15 : Below w.heap.size w w15 := Touch.toBelow G14 hb15 (fun x hx => (F14_x0.2 x hx).1) G14.size
  have S15_w0 := S14_w0.touch hb15 D_w0_x0
  have F15_w0 := F14_w0.touch (R.lt S14_w0) hb15
  have S15_w1 := S14_w1.touch hb15 D_w1_x0
  have F15_w1 := F14_w1.touch (R.lt S14_w1) hb15
  have S15_x1 := S14_x1.touch hb15 (fun x hx hy => D_x0_x1 x hy hx)
  have F15_x1 := F14_x1.touch (R.lt S14_x1) hb15
  have S15_g0 := S14_g0.touch hb15 (fun x hx hy => D_x0_g0 x hy hx)
  have F15_g0 := F14_g0.touch (R.lt S14_g0) hb15
  have S15_g1 := S14_g1.touch hb15 (fun x hx hy => D_x0_g1 x hy hx)
  have F15_g1 := F14_g1.touch (R.lt S14_g1) hb15
  have F15_x0 := F14_x0.touch (R.lt S14_x0) hb15
  have kc15_0 := rr15_0.cell
  have kc15_1 := rr15_1.cell
  have kc15_2 := rr15_2.cell
  have kc15_3 := rr15_3.cell
  clear rr14_0 rr14_1 rr14_2 rr14_3 G14 S14_w0 F14_w0 S14_w1 F14_w1 S14_x1 F14_x1 S14_g0 F14_g0 S14_g1 F14_g1 S14_x0 F14_x0 kc14_0 kc14_1 kc14_2 kc14_3 hb15
  go_wp2_with fail
  refine (EditS_mark (l1) _ _ _ _ (S15_x1) (F15_x1.mono (Nat.zero_le _)) (by omega) (by omega)).mono ?_
  rintro e w16 ⟨rfl, SM16, hb16⟩
  have rr16_0 := rr15_0.touch hb16 nb_0_x1
  have rr16_1 := rr15_1.touch hb16 nb_1_x1
  have rr16_2 := rr15_2.touch hb16 nb_2_x1
  have rr16_3 := rr15_3.touch hb16 nb_3_x1
  have G16 : Below w.heap.size w w16 := Touch.toBelow G15 hb16 (fun x hx => (F15_x1.2 x hx).1) G15.size
  have S16_w0 := S15_w0.touch hb16 D_w0_x1
  have F16_w0 := F15_w0.touch (R.lt S15_w0) hb16
  have S16_w1 := S15_w1.touch hb16 D_w1_x1
  have F16_w1 := F15_w1.touch (R.lt S15_w1) hb16
  have S16_g0 := S15_g0.touch hb16 (fun x hx hy => D_x1_g0 x hy hx)
  have F16_g0 := F15_g0.touch (R.lt S15_g0) hb16
  have S16_g1 := S15_g1.touch hb16 (fun x hx hy => D_x1_g1 x hy hx)
  have F16_g1 := F15_g1.touch (R.lt S15_g1) hb16
  have F16_x1 := F15_x1.touch (R.lt S15_x1) hb16
  have kc16_0 := rr16_0.cell
  have kc16_1 := rr16_1.cell
  have kc16_2 := rr16_2.cell
  have kc16_3 := rr16_3.cell
  clear rr15_0 rr15_1 rr15_2 rr15_3 G15 S15_w0 F15_w0 S15_w1 F15_w1 S15_g0 F15_g0 S15_g1 F15_g1 S15_x1 F15_x1 kc15_0 kc15_1 kc15_2 kc15_3 hb16
  go_wp2_with fail
  refine (GNb.eqSaid (⟨(appsN x0.cells l1 l1.length).1⟩) _ _ _ _ _ (S16_g0) (S16_w0)).mono ?_
  rintro e w17 ⟨rfl, hb17⟩
  have L17 : Below w16.heap.size w16 w17 := hb17
  have rr17_0 := rr16_0.below L17
  have rr17_1 := rr16_1.below L17
  have rr17_2 := rr16_2.below L17
  have rr17_3 := rr16_3.below L17
  have G17 : Below w.heap.size w w17 := G16.trans (L17.mono G16.size)
  have S17_w0 := S16_w0.below L17
  have F17_w0 := F16_w0.below (R.lt S16_w0) L17
  have S17_w1 := S16_w1.below L17
  have F17_w1 := F16_w1.below (R.lt S16_w1) L17
  have S17_g0 := S16_g0.below L17
  have F17_g0 := F16_g0.below (R.lt S16_g0) L17
  have S17_g1 := S16_g1.below L17
  have F17_g1 := F16_g1.below (R.lt S16_g1) L17
  have kc17_0 := rr17_0.cell
  have kc17_1 := rr17_1.cell
  have kc17_2 := rr17_2.cell
  have kc17_3 := rr17_3.cell
  clear rr16_0 rr16_1 rr16_2 rr16_3 G16 S16_w0 F16_w0 S16_w1 F16_w1 S16_g0 F16_g0 S16_g1 F16_g1 kc16_0 kc16_1 kc16_2 kc16_3 L17 hb17
  go_wp2_with fail
  refine (IntS_eqSaid ((appsN x0.cells l1 l1.length).2) _ _ _ _ _ (S17_g1) (S17_w1)).mono ?_
  rintro e w18 ⟨rfl, hb18⟩
  have L18 : Below w17.heap.size w17 w18 := hb18
  have rr18_0 := rr17_0.below L18
  have rr18_1 := rr17_1.below L18
  have rr18_2 := rr17_2.below L18
  have rr18_3 := rr17_3.below L18
  have G18 : Below w.heap.size w w18 := G17.trans (L18.mono G17.size)
  have S18_w0 := S17_w0.below L18
  have F18_w0 := F17_w0.below (R.lt S17_w0) L18
  have S18_w1 := S17_w1.below L18
  have F18_w1 := F17_w1.below (R.lt S17_w1) L18
  have S18_g0 := S17_g0.below L18
  have F18_g0 := F17_g0.below (R.lt S17_g0) L18
  have S18_g1 := S17_g1.below L18
  have F18_g1 := F17_g1.below (R.lt S17_g1) L18
  have kc18_0 := rr18_0.cell
  have kc18_1 := rr18_1.cell
  have kc18_2 := rr18_2.cell
  have kc18_3 := rr18_3.cell
  clear rr17_0 rr17_1 rr17_2 rr17_3 G17 S17_w0 F17_w0 S17_w1 F17_w1 S17_g0 F17_g0 S17_g1 F17_g1 kc17_0 kc17_1 kc17_2 kc17_3 L18 hb18
  go_wp2_with fail
  refine (GNb.mark (⟨(appsN x0.cells l1 l1.length).1⟩) _ _ _ _ (S18_g0) (F18_g0.mono (Nat.zero_le _)) (by omega) (by omega)).mono ?_
  rintro e w19 ⟨rfl, SM19, hb19⟩
  have rr19_0 := rr18_0.touch hb19 nb_0_g0
  have rr19_1 := rr18_1.touch hb19 nb_1_g0
  have rr19_2 := rr18_2.touch hb19 nb_2_g0
  have rr19_3 := rr18_3.touch hb19 nb_3_g0
  have G19 : Below w.heap.size w w19 := Touch.toBelow G18 hb19 (fun x hx => (F18_g0.2 x hx).1) G18.size
  have S19_w0 := S18_w0.touch hb19 D_w0_g0
  have F19_w0 := F18_w0.touch (R.lt S18_w0) hb19
  have S19_w1 := S18_w1.touch hb19 D_w1_g0
  have F19_w1 := F18_w1.touch (R.lt S18_w1) hb19
  have S19_g1 := S18_g1.touch hb19 (fun x hx hy => D_g0_g1 x hy hx)
  have F19_g1 := F18_g1.touch (R.lt S18_g1) hb19
  have F19_g0 := F18_g0.touch (R.lt S18_g0) hb19
  have kc19_0 := rr19_0.cell
  have kc19_1 := rr19_1.cell
  have kc19_2 := rr19_2.cell
  have kc19_3 := rr19_3.cell
  clear rr18_0 rr18_1 rr18_2 rr18_3 G18 S18_w0 F18_w0 S18_w1 F18_w1 S18_g1 F18_g1 S18_g0 F18_g0 kc18_0 kc18_1 kc18_2 kc18_3 hb19
  go_wp2_with fail
  refine (IntS_mark ((appsN x0.cells l1 l1.length).2) _ _ _ _ (S19_g1) (F19_g1.mono (Nat.zero_le _)) (by omega) (by omega)).mono ?_
  rintro e w20 ⟨rfl, SM20, hb20⟩
  have rr20_0 := rr19_0.touch hb20 nb_0_g1
  have rr20_1 := rr19_1.touch hb20 nb_1_g1
  have rr20_2 := rr19_2.touch hb20 nb_2_g1
  have rr20_3 := rr19_3.touch hb20 nb_3_g1
  have G20 : Below w.heap.size w w20 := Touch.toBelow G19 hb20 (fun x hx => (F19_g1.2 x hx).1) G19.size
  have S20_w0 := S19_w0.touch hb20 D_w0_g1
  have F20_w0 := F19_w0.touch (R.lt S19_w0) hb20
  have S20_w1 := S19_w1.touch hb20 D_w1_g1
  have F20_w1 := F19_w1.touch (R.lt S19_w1) hb20
  have S20_g0 := SM19.touch hb20 D_g0_g1
  have F20_g0 := F19_g0.touch (R.lt SM19) hb20
  have F20_g1 := F19_g1.touch (R.lt S19_g1) hb20
  have kc20_0 := rr20_0.cell
  have kc20_1 := rr20_1.cell
  have kc20_2 := rr20_2.cell
  have kc20_3 := rr20_3.cell
  clear rr19_0 rr19_1 rr19_2 rr19_3 G19 S19_w0 F19_w0 S19_w1 F19_w1 SM19 F19_g0 S19_g1 F19_g1 kc19_0 kc19_1 kc19_2 kc19_3 hb20
  go_wp2_with fail
  refine (GNb.held (⟨(appsN x0.cells l1 l1.length).1⟩) _ _ _ _ (S20_g0) (by omega) (by omega)).mono ?_
  rintro e w21 ⟨rfl, hb21⟩
  have L21 : Below w20.heap.size w20 w21 := hb21
  have rr21_0 := rr20_0.below L21
  have rr21_1 := rr20_1.below L21
  have rr21_2 := rr20_2.below L21
  have rr21_3 := rr20_3.below L21
  have G21 : Below w.heap.size w w21 := G20.trans (L21.mono G20.size)
  have S21_w0 := S20_w0.below L21
  have F21_w0 := F20_w0.below (R.lt S20_w0) L21
  have S21_w1 := S20_w1.below L21
  have F21_w1 := F20_w1.below (R.lt S20_w1) L21
  have S21_g0 := S20_g0.below L21
  have F21_g0 := F20_g0.below (R.lt S20_g0) L21
  have S21_g1 := SM20.below L21
  have F21_g1 := F20_g1.below (R.lt SM20) L21
  have kc21_0 := rr21_0.cell
  have kc21_1 := rr21_1.cell
  have kc21_2 := rr21_2.cell
  have kc21_3 := rr21_3.cell
  clear rr20_0 rr20_1 rr20_2 rr20_3 G20 S20_w0 F20_w0 S20_w1 F20_w1 S20_g0 F20_g0 SM20 F20_g1 kc20_0 kc20_1 kc20_2 kc20_3 L21 hb21
  go_wp2_with fail
  refine (IntS_held ((appsN x0.cells l1 l1.length).2) _ _ _ _ (S21_g1) (by omega) (by omega)).mono ?_
  rintro e w22 ⟨rfl, hb22⟩
  have L22 : Below w21.heap.size w21 w22 := hb22
  have rr22_0 := rr21_0.below L22
  have rr22_1 := rr21_1.below L22
  have rr22_2 := rr21_2.below L22
  have rr22_3 := rr21_3.below L22
  have G22 : Below w.heap.size w w22 := G21.trans (L22.mono G21.size)
  have S22_w0 := S21_w0.below L22
  have F22_w0 := F21_w0.below (R.lt S21_w0) L22
  have S22_w1 := S21_w1.below L22
  have F22_w1 := F21_w1.below (R.lt S21_w1) L22
  have S22_g0 := S21_g0.below L22
  have F22_g0 := F21_g0.below (R.lt S21_g0) L22
  have S22_g1 := S21_g1.below L22
  have F22_g1 := F21_g1.below (R.lt S21_g1) L22
  have kc22_0 := rr22_0.cell
  have kc22_1 := rr22_1.cell
  have kc22_2 := rr22_2.cell
  have kc22_3 := rr22_3.cell
  clear rr21_0 rr21_1 rr21_2 rr21_3 G21 S21_w0 F21_w0 S21_w1 F21_w1 S21_g0 F21_g0 S21_g1 F21_g1 kc21_0 kc21_1 kc21_2 kc21_3 L22 hb22
  go_wp2_with fail
  refine (x0.toSaid _ _ _ ((hx0.below G22)) hw0).mono ?_
  rintro e w23 ⟨f23, cc23, rfl, S23, F23, hb23⟩
  obtain ⟨u_t70, g_t70, hqf, rfl, hU_t70⟩ := GNb.opened.1 S23
  clear hqf
  obtain ⟨A_t70, d_t70, rfl, hqa, hqb⟩ := hU_t70.formT
  clear hqa hqb hU_t70
  have L23 : Below w22.heap.size w22 w23 := hb23
  have rr23_0 := rr22_0.below L23
  have rr23_1 := rr22_1.below L23
  have rr23_2 := rr22_2.below L23
  have rr23_3 := rr22_3.below L23
  have F23b := F23.mono (base' := w22.heap.size) (Nat.le_refl _)
  have D_w0_t7 : ∀ x ∈ f5_0, x ∉ f23 := fun x hx hy => Nat.lt_irrefl _ (Nat.lt_of_lt_of_le (R.lt S22_w0 x hx) ((F23b.2 x hy).1))
  have D_w1_t7 : ∀ x ∈ f5_1, x ∉ f23 := fun x hx hy => Nat.lt_irrefl _ (Nat.lt_of_lt_of_le (R.lt S22_w1 x hx) ((F23b.2 x hy).1))
  have D_g0_t7 : ∀ x ∈ f8_0, x ∉ f23 := fun x hx hy => Nat.lt_irrefl _ (Nat.lt_of_lt_of_le (R.lt S22_g0 x hx) ((F23b.2 x hy).1))
  have D_g1_t7 : ∀ x ∈ f8_1, x ∉ f23 := fun x hx hy => Nat.lt_irrefl _ (Nat.lt_of_lt_of_le (R.lt S22_g1 x hx) ((F23b.2 x hy).1))
  have nb_0_t7 : w.heap.size ∉ f23 := fun hy => Nat.lt_irrefl _ (Nat.lt_of_lt_of_le rr22_0.lt ((F23b.2 _ hy).1))
  have nb_1_t7 : w5.heap.size ∉ f23 := fun hy => Nat.lt_irrefl _ (Nat.lt_of_lt_of_le rr22_1.lt ((F23b.2 _ hy).1))
  have nb_2_t7 : w6.heap.size ∉ f23 := fun hy => Nat.lt_irrefl _ (Nat.lt_of_lt_of_le rr22_2.lt ((F23b.2 _ hy).1))
  have nb_3_t7 : w8.heap.size ∉ f23 := fun hy => Nat.lt_irrefl _ (Nat.lt_of_lt_of_le rr22_3.lt ((F23b.2 _ hy).1))
  have G23 : Below w.heap.size w w23 := G22.trans (L23.mono G22.size)
  have F23c := F23b.mono (base' := w.heap.size) (G22.size)
  have S23_w0 := S22_w0.below L23
  have F23_w0 := F22_w0.below (R.lt S22_w0) L23
  have S23_w1 := S22_w1.below L23
  have F23_w1 := F22_w1.below (R.lt S22_w1) L23
  have S23_g0 := S22_g0.below L23
  have F23_g0 := F22_g0.below (R.lt S22_g0) L23
  have S23_g1 := S22_g1.below L23
  have F23_g1 := F22_g1.below (R.lt S22_g1) L23
  have kc23_0 := rr23_0.cell
  have kc23_1 := rr23_1.cell
  have kc23_2 := rr23_2.cell
  have kc23_3 := rr23_3.cell
  clear rr22_0 rr22_1 rr22_2 rr22_3 G22 F23 F23b S22_w0 F22_w0 S22_w1 F22_w1 S22_g0 F22_g0 S22_g1 F22_g1 kc22_0 kc22_1 kc22_2 kc22_3 L23 hb23
  go_wp2_with fail
  refine (EditS_toSaid l1 _ _ _ ((hx1.below G23)) hw1).mono ?_
  rintro e w24 ⟨f24, vv24, rfl, S24, F24, hb24⟩
  obtain ⟨A_t8, d_t8, rfl, hqa, hqb⟩ := S24.formT
  clear hqa hqb
  have L24 : Below w23.heap.size w23 w24 := hb24
  have rr24_0 := rr23_0.below L24
  have rr24_1 := rr23_1.below L24
  have rr24_2 := rr23_2.below L24
  have rr24_3 := rr23_3.below L24
  have F24b := F24.mono (base' := w23.heap.size) (Nat.le_refl _)
  have D_w0_t8 : ∀ x ∈ f5_0, x ∉ f24 := fun x hx hy => Nat.lt_irrefl _ (Nat.lt_of_lt_of_le (R.lt S23_w0 x hx) ((F24b.2 x hy).1))
  have D_w1_t8 : ∀ x ∈ f5_1, x ∉ f24 := fun x hx hy => Nat.lt_irrefl _ (Nat.lt_of_lt_of_le (R.lt S23_w1 x hx) ((F24b.2 x hy).1))
  have D_g0_t8 : ∀ x ∈ f8_0, x ∉ f24 := fun x hx hy => Nat.lt_irrefl _ (Nat.lt_of_lt_of_le (R.lt S23_g0 x hx) ((F24b.2 x hy).1))
  have D_g1_t8 : ∀ x ∈ f8_1, x ∉ f24 := fun x hx hy => Nat.lt_irrefl _ (Nat.lt_of_lt_of_le (R.lt S23_g1 x hx) ((F24b.2 x hy).1))
  have D_t7_t8 : ∀ x ∈ f23, x ∉ f24 := fun x hx hy => Nat.lt_irrefl _ (Nat.lt_of_lt_of_le (R.lt S23 x hx) ((F24b.2 x hy).1))
  have nb_0_t8 : w.heap.size ∉ f24 := fun hy => Nat.lt_irrefl _ (Nat.lt_of_lt_of_le rr23_0.lt ((F24b.2 _ hy).1))
  have nb_1_t8 : w5.heap.size ∉ f24 := fun hy => Nat.lt_irrefl _ (Nat.lt_of_lt_of_le rr23_1.lt ((F24b.2 _ hy).1))
  have nb_2_t8 : w6.heap.size ∉ f24 := fun hy => Nat.lt_irrefl _ (Nat.lt_of_lt_of_le rr23_2.lt ((F24b.2 _ hy).1))
  have nb_3_t8 : w8.heap.size ∉ f24 := fun hy => Nat.lt_irrefl _ (Nat.lt_of_lt_of_le rr23_3.lt ((F24b.2 _ hy).1))
  have G24 : Below w.heap.size w w24 := G23.trans (L24.mono G23.size)
  have F24c := F24b.mono (base' := w.heap.size) (G23.size)
  have S24_w0 := S23_w0.below L24
  have F24_w0 := F23_w0.below (R.lt S23_w0) L24
  have S24_w1 := S23_w1.below L24
  have F24_w1 := F23_w1.below (R.lt S23_w1) L24
  have S24_g0 := S23_g0.below L24
  have F24_g0 := F23_g0.below (R.lt S23_g0) L24
  have S24_g1 := S23_g1.below L24
  have F24_g1 := F23_g1.below (R.lt S23_g1) L24
  have S24_t7 := S23.below L24
  have F24_t7 := F23c.below (R.lt S23) L24
  have kc24_0 := rr24_0.cell
  have kc24_1 := rr24_1.cell
  have kc24_2 := rr24_2.cell
  have kc24_3 := rr24_3.cell
  clear rr23_0 rr23_1 rr23_2 rr23_3 G23 F24 F24b S23_w0 F23_w0 S23_w1 F23_w1 S23_g0 F23_g0 S23_g1 F23_g1 S23 F23c kc23_0 kc23_1 kc23_2 kc23_3 L24 hb24
  go_wp2_with fail
  refine (apps_impl_law x0 l1 _ _ _ _ _ (S24_t7) (S24) hn0 hn1 wx0.1 wx1).mono ?_
  rintro e w25 ⟨f25_0, vv25_0, f25_1, vv25_1, rfl, S25_0, F25_0, S25_1, F25_1, dis25, hb25⟩
  have D_h0_h1 := dis25
  obtain ⟨u_h00, g_h00, hqf, rfl, hU_h00⟩ := GNb.opened.1 S25_0
  clear hqf
  obtain ⟨A_h00, d_h00, rfl, hqa, hqb⟩ := hU_h00.formT
  clear hqa hqb hU_h00
  obtain ⟨A_h1, d_h1, rfl, hqa, hqb⟩ := S25_1.formT
  clear hqa hqb
  have L25 : Below w24.heap.size w24 w25 := hb25
  have rr25_0 := rr24_0.below L25
  have rr25_1 := rr24_1.below L25
  have rr25_2 := rr24_2.below L25
  have rr25_3 := rr24_3.below L25
  have F25_0b := F25_0.mono (base' := w24.heap.size) (Nat.le_refl _)
  have D_w0_h0 : ∀ x ∈ f5_0, x ∉ f25_0 := fun x hx hy => Nat.lt_irrefl _ (Nat.lt_of_lt_of_le (R.lt S24_w0 x hx) ((F25_0b.2 x hy).1))
  have D_w1_h0 : ∀ x ∈ f5_1, x ∉ f25_0 := fun x hx hy => Nat.lt_irrefl _ (Nat.lt_of_lt_of_le (R.lt S24_w1 x hx) ((F25_0b.2 x hy).1))
  have D_g0_h0 : ∀ x ∈ f8_0, x ∉ f25_0 := fun x hx hy => Nat.lt_irrefl _ (Nat.lt_of_lt_of_le (R.lt S24_g0 x hx) ((F25_0b.2 x hy).1))
  have D_g1_h0 : ∀ x ∈ f8_1, x ∉ f25_0 := fun x hx hy => Nat.lt_irrefl _ (Nat.lt_of_lt_of_le (R.lt S24_g1 x hx) ((F25_0b.2 x hy).1))
  have nb_0_h0 : w.heap.size ∉ f25_0 := fun hy => Nat.lt_irrefl _ (Nat.lt_of_lt_of_le rr24_0.lt ((F25_0b.2 _ hy).1))
  have nb_1_h0 : w5.heap.size ∉ f25_0 := fun hy => Nat.lt_irrefl _ (Nat.lt_of_lt_of_le rr24_1.lt ((F25_0b.2 _ hy).1))
  have nb_2_h0 : w6.heap.size ∉ f25_0 := fun hy => Nat.lt_irrefl _ (Nat.lt_of_lt_of_le rr24_2.lt ((F25_0b.2 _ hy).1))
  have nb_3_h0 : w8.heap.size ∉ f25_0 := fun hy => Nat.lt_irrefl _ (Nat.lt_of_lt_of_le rr24_3.lt ((F25_0b.2 _ hy).1))
  have F25_1b := F25_1.mono (base' := w24.heap.size) (Nat.le_refl _)
  have D_w0_h1 : ∀ x ∈ f5_0, x ∉ f25_1 := fun x hx hy => Nat.lt_irrefl _ (Nat.lt_of_lt_of_le (R.lt S24_w0 x hx) ((F25_1b.2 x hy).1))
  have D_w1_h1 : ∀ x ∈ f5_1, x ∉ f25_1 := fun x hx hy => Nat.lt_irrefl _ (Nat.lt_of_lt_of_le (R.lt S24_w1 x hx) ((F25_1b.2 x hy).1))
  have D_g0_h1 : ∀ x ∈ f8_0, x ∉ f25_1 := fun x hx hy => Nat.lt_irrefl _ (Nat.lt_of_lt_of_le (R.lt S24_g0 x hx) ((F25_1b.2 x hy).1))
  have D_g1_h1 : ∀ x ∈ f8_1, x ∉ f25_1 := fun x hx hy => Nat.lt_irrefl _ (Nat.lt_of_lt_of_le (R.lt S24_g1 x hx) ((F25_1b.2 x hy).1))
  have nb_0_h1 : w.heap.size ∉ f25_1 := fun hy => Nat.lt_irrefl _ (Nat.lt_of_lt_of_le rr24_0.lt ((F25_1b.2 _ hy).1))
  have nb_1_h1 : w5.heap.size ∉ f25_1 := fun hy => Nat.lt_irrefl _ (Nat.lt_of_lt_of_le rr24_1.lt ((F25_1b.2 _ hy).1))
  have nb_2_h1 : w6.heap.size ∉ f25_1 := fun hy => Nat.lt_irrefl _ (Nat.lt_of_lt_of_le rr24_2.lt ((F25_1b.2 _ hy).1))
  have nb_3_h1 : w8.heap.size ∉ f25_1 := fun hy => Nat.lt_irrefl _ (Nat.lt_of_lt_of_le rr24_3.lt ((F25_1b.2 _ hy).1))
  have G25 : Below w.heap.size w w25 := G24.trans (L25.mono G24.size)
  have F25_0c := F25_0b.mono (base' := w.heap.size) (G24.size)
  have F25_1c := F25_1b.mono (base' := w.heap.size) (G24.size)
  have S25_w0 := S24_w0.below L25
  have F25_w0 := F24_w0.below (R.lt S24_w0) L25
  have S25_w1 := S24_w1.below L25
  have F25_w1 := F24_w1.below (R.lt S24_w1) L25
  have S25_g0 := S24_g0.below L25
  have F25_g0 := F24_g0.below (R.lt S24_g0) L25
  have S25_g1 := S24_g1.below L25
  have F25_g1 := F24_g1.below (R.lt S24_g1) L25
  have kc25_0 := rr25_0.cell
  have kj25_0 := fun o => (rr25_0.below ((Below.refl w25.heap.size w25).alloc (Nat.le_refl _) o)).cell
  have kc25_1 := rr25_1.cell
  have kj25_1 := fun o => (rr25_1.below ((Below.refl w25.heap.size w25).alloc (Nat.le_refl _) o)).cell
  have kc25_2 := rr25_2.cell
  have kj25_2 := fun o => (rr25_2.below ((Below.refl w25.heap.size w25).alloc (Nat.le_refl _) o)).cell
  have kc25_3 := rr25_3.cell
  have kj25_3 := fun o => (rr25_3.below ((Below.refl w25.heap.size w25).alloc (Nat.le_refl _) o)).cell
  clear rr24_0 rr24_1 rr24_2 rr24_3 G24 F25_0 F25_0b F25_1 F25_1b S24_w0 F24_w0 S24_w1 F24_w1 S24_g0 F24_g0 S24_g1 F24_g1 kc24_0 kc24_1 kc24_2 kc24_3 L25 hb25
  have nb_4_w0 : w25.heap.size ∉ f5_0 := fun hy => by have := R.lt S25_w0 _ hy; omega
  have nb_4_w1 : w25.heap.size ∉ f5_1 := fun hy => by have := R.lt S25_w1 _ hy; omega
  have nb_4_g0 : w25.heap.size ∉ f8_0 := fun hy => by have := R.lt S25_g0 _ hy; omega
  have nb_4_g1 : w25.heap.size ∉ f8_1 := fun hy => by have := R.lt S25_g1 _ hy; omega
  have nb_4_h0 : w25.heap.size ∉ f25_0 := fun hy => by have := R.lt S25_0 _ hy; omega
  have nb_4_h1 : w25.heap.size ∉ f25_1 := fun hy => by have := R.lt S25_1 _ hy; omega
  go_wp2_with fail
  refine (GNb.eqSaid (⟨(appsN x0.cells l1 l1.length).1⟩) _ _ _ _ _ (S25_0.below ((Below.refl _ _).alloc (Nat.le_refl _) _)) (S25_w0.below ((Below.refl _ _).alloc (Nat.le_refl _) _))).mono ?_
  rintro e w26 ⟨rfl, hb26⟩
  obtain ⟨rw26_0, hz26, L26⟩ := rows1 hb26
  have rr26_0 := rr25_0.below L26
  have rr26_1 := rr25_1.below L26
  have rr26_2 := rr25_2.below L26
  have rr26_3 := rr25_3.below L26
  have G26 : Below w.heap.size w w26 := G25.trans (L26.mono G25.size)
  have S26_w0 := S25_w0.below L26
  have F26_w0 := F25_w0.below (R.lt S25_w0) L26
  have S26_w1 := S25_w1.below L26
  have F26_w1 := F25_w1.below (R.lt S25_w1) L26
  have S26_g0 := S25_g0.below L26
  have F26_g0 := F25_g0.below (R.lt S25_g0) L26
  have S26_g1 := S25_g1.below L26
  have F26_g1 := F25_g1.below (R.lt S25_g1) L26
  have S26_h0 := S25_0.below L26
  have F26_h0 := F25_0c.below (R.lt S25_0) L26
  have S26_h1 := S25_1.below L26
  have F26_h1 := F25_1c.below (R.lt S25_1) L26
  have kc26_0 := rr26_0.cell
  have kc26_1 := rr26_1.cell
  have kc26_2 := rr26_2.cell
  have kc26_3 := rr26_3.cell
  have kc26_4 := rw26_0.cell
  clear rr25_0 rr25_1 rr25_2 rr25_3 G25 S25_w0 F25_w0 S25_w1 F25_w1 S25_g0 F25_g0 S25_g1 F25_g1 S25_0 F25_0c S25_1 F25_1c kc25_0 kj25_0 kc25_1 kj25_1 kc25_2 kj25_2 kc25_3 kj25_3 L26 hb26 hz26
  go_wp2_with fail
  refine (IntS_eqSaid ((appsN x0.cells l1 l1.length).2) _ _ _ _ _ (S26_h1) (S26_w1)).mono ?_
  rintro e w27 ⟨rfl, hb27⟩
  have L27 : Below w26.heap.size w26 w27 := hb27
  have rr27_0 := rr26_0.below L27
  have rr27_1 := rr26_1.below L27
  have rr27_2 := rr26_2.below L27
  have rr27_3 := rr26_3.below L27
  have rr27_4 := rw26_0.below L27
  have G27 : Below w.heap.size w w27 := G26.trans (L27.mono G26.size)
  have S27_w0 := S26_w0.below L27
  have F27_w0 := F26_w0.below (R.lt S26_w0) L27
  have S27_w1 := S26_w1.below L27
  have F27_w1 := F26_w1.below (R.lt S26_w1) L27
  have S27_g0 := S26_g0.below L27
  have F27_g0 := F26_g0.below (R.lt S26_g0) L27
  have S27_g1 := S26_g1.below L27
  have F27_g1 := F26_g1.below (R.lt S26_g1) L27
  have S27_h0 := S26_h0.below L27
  have F27_h0 := F26_h0.below (R.lt S26_h0) L27
  have S27_h1 := S26_h1.below L27
  have F27_h1 := F26_h1.below (R.lt S26_h1) L27
  have kc27_0 := rr27_0.cell
  have kc27_1 := rr27_1.cell
  have kc27_2 := rr27_2.cell
  have kc27_3 := rr27_3.cell
  have kc27_4 := rr27_4.cell
  clear rr26_0 rr26_1 rr26_2 rr26_3 rw26_0 G26 S26_w0 F26_w0 S26_w1 F26_w1 S26_g0 F26_g0 S26_g1 F26_g1 S26_h0 F26_h0 S26_h1 F26_h1 kc26_0 kc26_1 kc26_2 kc26_3 kc26_4 L27 hb27
  go_wp2_with fail
  refine (GNb.held (⟨(appsN x0.cells l1 l1.length).1⟩) _ _ _ _ (S27_g0) (by omega) (by omega)).mono ?_
  rintro e w28 ⟨rfl, hb28⟩
  have L28 : Below w27.heap.size w27 w28 := hb28
  have rr28_0 := rr27_0.below L28
  have rr28_1 := rr27_1.below L28
  have rr28_2 := rr27_2.below L28
  have rr28_3 := rr27_3.below L28
  have rr28_4 := rr27_4.below L28
  have G28 : Below w.heap.size w w28 := G27.trans (L28.mono G27.size)
  have S28_g0 := S27_g0.below L28
  have F28_g0 := F27_g0.below (R.lt S27_g0) L28
  have S28_g1 := S27_g1.below L28
  have F28_g1 := F27_g1.below (R.lt S27_g1) L28
  have kc28_0 := rr28_0.cell
  have kc28_1 := rr28_1.cell
  have kc28_2 := rr28_2.cell
  have kc28_3 := rr28_3.cell
  have kc28_4 := rr28_4.cell
  clear rr27_0 rr27_1 rr27_2 rr27_3 rr27_4 G27 S27_g0 F27_g0 S27_g1 F27_g1 kc27_0 kc27_1 kc27_2 kc27_3 kc27_4 L28 hb28
  go_wp2_with fail
  refine (IntS_held ((appsN x0.cells l1 l1.length).2) _ _ _ _ (S28_g1) (by omega) (by omega)).mono ?_
  rintro e w29 ⟨rfl, hb29⟩
  have L29 : Below w28.heap.size w28 w29 := hb29
  have rr29_0 := rr28_0.below L29
  have rr29_1 := rr28_1.below L29
  have rr29_2 := rr28_2.below L29
  have rr29_3 := rr28_3.below L29
  have rr29_4 := rr28_4.below L29
  have G29 : Below w.heap.size w w29 := G28.trans (L29.mono G28.size)
  have S29_g1 := S28_g1.below L29
  have F29_g1 := F28_g1.below (R.lt S28_g1) L29
  have kc29_0 := rr29_0.cell
  have kc29_1 := rr29_1.cell
  have kc29_2 := rr29_2.cell
  have kc29_3 := rr29_3.cell
  have kc29_4 := rr29_4.cell
  clear rr28_0 rr28_1 rr28_2 rr28_3 rr28_4 G28 S28_g1 F28_g1 kc28_0 kc28_1 kc28_2 kc28_3 kc28_4 L29 hb29
  go_wp2_with fail
  go_ret
  exact ⟨rfl, G29⟩

open Go.ChangeShapes Go.WideShapes Go.ChangeAt
set_option maxRecDepth 100000 in
theorem lifted_FnExactApplyEdits (os : Os) (started : os.Started) (H : Type) (enc : TypeId × Value → H) :
    ReturnsInHanded {} Try.checked os 5 .any (Rows.fnExactApplyEditsSpec.pre6 enc Try.prog Try.f5 Rows.fnExactApplyEditsRow.domain false) (Rows.fnExactApplyEditsSpec.post enc Try.prog Try.f5 false true false false) := by
  refine returnsInHanded_of_change (C := Try.checked) own_ started (by kernel_rfl) Try.func5
    (ChangeSpec.witness6 (enc := enc) (C := Try.checked) false ⟨#[], #[.agg #[.slice none 0 0], .slice none 0 0], []⟩ 8 (by kernel_rfl) (by kernel_rfl) (by kernel_rfl) (by kernel_rfl)) ?_
  intro W base args ds gs before hval0 hW hcnd _
  have hval : ∀ (j : Nat) t v, Try.f5.params[j]? = some t → args[j]? = some v → Value.okWide Try.prog W .any base t v := hval0
  have hW' := hW
  obtain ⟨p, q, hA0, hV, rfl, hfz, hnd⟩ := hW
  have hA : DataW.TrodAll enc Try.prog W 0 (fun _ => true) true Try.f5.params.toList args.toList ds p := hA0
  rw [Try.params5] at hA hval
  obtain ⟨v0, vs0, d0, ds0, p0, q0, ha0, rfl, rfl, h0, r0⟩ := trodAll_cons hA
  obtain ⟨v1, vs1, d1, ds1, p1, q1, ha1, rfl, rfl, h1, r1⟩ := trodAll_cons r0
  obtain ⟨rfl, rfl, rfl⟩ := trodAll_nil r1
  subst ha1
  obtain rfl : args = #[v0, v1] := by cases args; simp_all
  obtain ⟨rfl, rfl⟩ := trodVars_none hV
  obtain ⟨x0, fx0, cx0, rfl, hx0, wx0⟩ := arg_struct Try.underlying24 (hval 0 24 v0 rfl rfl) (fun n => rd_GNb n) h0
  obtain ⟨x1, fx1, hx1, wx1⟩ := arg_slice Try.underlying47 (hval 1 47 v1 rfl rfl) (fun n => rd_SGEdit n) h1
  clear hA0 hval0
  have hlt : ∀ z ∈ p0 ++ (p1 ++ []), z.block < W.heap.size := fun z hz => hW'.lt z (by simpa using hz)
  refine (law_FnExactApplyEdits x0 fx0 cx0 x1 fx1 _ W hx0 wx0 hx1 wx1).mono fun e W' ⟨he, hb⟩ => ?_
  subst he
  exact ⟨_, rfl, post_of_below (pa := p0 ++ (p1 ++ [])) (pv := []) hW' (fun _ _ _ => trodAll_mk1 (shut_bool Try.underlying4 _))
    (fun sp hsp => ⟨_, _, WideElems.Trod_stays laidOut_ (by kernel_rfl) (of_decide_eq_true (by kernel_rfl)) h0 (fun z hz => hb.same (hlt z (List.mem_append_left _ hz))) (fun z hz => hsp z (by simp [hz])), ⟨_, _, WideElems.Trod_stays laidOut_ (by kernel_rfl) (of_decide_eq_true (by kernel_rfl)) h1 (fun z hz => hb.same (hlt z (List.mem_append_right _ (List.mem_append_left _ hz)))) (fun z hz => hsp z (by simp [hz])), rfl, rfl⟩, rfl⟩) (fun _ _ => rfl) (by simp) hb (ok_one (by kernel_rfl) rfl (okWide_bool_mk Try.underlying4 _))⟩

theorem proved_FnExactApplyEdits : Rows.FnExactApplyEditsSaid :=
  OpenClaim.holds_of_wide 5 Try.f5 rfl rfl rfl rfl rfl rfl rfl ⟨rfl, rfl, rfl, rfl, rfl⟩ rfl rfl rfl rfl rfl (by kernel_rfl) Try.func5 (by kernel_rfl)
    (of_decide_eq_true (by kernel_rfl)) (by unfold Func.isWrapper; first | (rw [if_pos (by decide +kernel)]; kernel_rfl) | (rw [if_neg (by decide +kernel)]; exact ⟨rfl, rfl⟩))
    (fun os started H enc _ => lifted_FnExactApplyEdits os started H enc)
end Go.Proofs.Ytokplliaejbbdaa
