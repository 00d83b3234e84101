/-
  The program's UsesOf returns what the reference's returns, for all arguments. No condition.
-/
import Derived.Test.YtncbhiehgkohjaaFin
import Derived.Test.YtncbhiehgkohjaaSz
import Derived.Test.YtncbhiehgkohjaaTo
import Derived.Test.YtncbhiehgkohjaaEq
import Derived.Test.YtncbhiehgkohjaaMarks
import Derived.Test.YtncbhiehgkohjaaVisit
import Derived.Test.YtncbhiehgkohjaaPartMark
namespace Go.Proofs.Ytncbhiehgkohjaa
open Go.RowKit
set_option linter.unusedSimpArgs false
set_option linter.unusedVariables false

set_option maxRecDepth 40000 in
set_option maxHeartbeats 8000000 in
theorem law_FnExactUsesOf (x0 : GPart) (fx0 : List Nat) (cx0 : List Value) (w : World) (hx0 : R w x0.toD fx0 cx0) (wx0 : x0.toD.wf) :
    Calls Try.prog 7 #[.agg cx0.toArray] w (TruePost w) := by
  obtain ⟨u0_0, u0_1, u0_2, u0_3, g0_0, g0_1, g0_2, g0_3, rfl, rfl, hU0_0, hU0_1, hU0_2, hU0_3⟩ := GPart.opened.1 hx0
  obtain ⟨A0_0, d0_0, rfl, hqa, hqb⟩ := hU0_0.formT
  clear hqa hqb hU0_0
  obtain ⟨A0_1, d0_1, rfl, hqa, hqb⟩ := hU0_1.formT
  clear hqa hqb hU0_1
  obtain ⟨A0_2, d0_2, rfl, hqa, hqb⟩ := hU0_2.formT
  clear hqa hqb hU0_2
  obtain ⟨A0_3, d0_3, rfl, hqa, hqb⟩ := hU0_3.formT
  clear hqa hqb hU0_3
  go_enter Try.func7, Try.ntmps7
  go_wp2_with fail
  refine (x0.szSaid _ _ _ _ (hx0.below ((Below.refl _ _).alloc (Nat.le_refl _) _)) wx0 (by omega) (by omega)).mono ?_
  rintro e w1 ⟨r1, rfl, hr1, hqa, hqb, hb1⟩
  obtain ⟨rw1_0, hz1, L1⟩ := rows1 hb1
  have G1 : Below w.heap.size w w1 := L1
  have kc1_0 := rw1_0.cell
  clear L1 hb1 hz1
  go_wp2_with fail
  · go_ret
    exact ⟨rfl, G1⟩
  have hw0 : x0.toD.wt ≤ 1048576 := by have := hr1.le (by omega); omega
  have hc0 : x0.toD.acnt ≤ 14680080 := by have := D.acnt_le x0.toD; have := D.cnt_le _ (x0.thin); have := GPart.sz_eq x0; omega
  have hwe0 : x0.expr.toD.wt ≤ 1048576 := by have := x0.expr_wt; omega
  have hcr : D.cnts ((usesL x0).map ls) ≤ 1048576 := by rw [cnts_strs]; exact usesL_len x0 hwe0
  clear hr1
  refine (x0.toSaid _ _ _ ((hx0.below G1)) hw0).mono ?_
  rintro e w2 ⟨f2, cc2, rfl, S2, F2, hb2⟩
  obtain ⟨u_t10, u_t11, u_t12, u_t13, g_t10, g_t11, g_t12, g_t13, hqf, rfl, hU_t10, hU_t11, hU_t12, hU_t13⟩ := GPart.opened.1 S2
  clear hqf
  obtain ⟨A_t10, d_t10, rfl, hqa, hqb⟩ := hU_t10.formT
  clear hqa hqb hU_t10
  obtain ⟨A_t11, d_t11, rfl, hqa, hqb⟩ := hU_t11.formT
  clear hqa hqb hU_t11
  obtain ⟨A_t12, d_t12, rfl, hqa, hqb⟩ := hU_t12.formT
  clear hqa hqb hU_t12
  obtain ⟨A_t13, d_t13, rfl, hqa, hqb⟩ := hU_t13.formT
  clear hqa hqb hU_t13
  have L2 : Below w1.heap.size w1 w2 := hb2
  have rr2_0 := rw1_0.below L2
  have F2b := F2.mono (base' := w1.heap.size) (Nat.le_refl _)
  have nb_0_t1 : w.heap.size ∉ f2 := fun hy => Nat.lt_irrefl _ (Nat.lt_of_lt_of_le rw1_0.lt ((F2b.2 _ hy).1))
  have G2 : Below w.heap.size w w2 := G1.trans (L2.mono G1.size)
  have F2c := F2b.mono (base' := w.heap.size) (G1.size)
  have kc2_0 := rr2_0.cell
  clear rw1_0 G1 F2 F2b kc1_0 L2 hb2
  go_wp2_with fail
  refine (usesOf_spec_law x0 _ _ _ (S2) hwe0).mono ?_
  rintro e w3 ⟨f3_0, vv3_0, rfl, S3_0, F3_0, hb3⟩
  obtain ⟨A_w0, d_w0, rfl, hqa, hqb⟩ := S3_0.formT
  clear hqa hqb
  have L3 : Below w2.heap.size w2 w3 := hb3
  have rr3_0 := rr2_0.below L3
  have F3_0b := F3_0.mono (base' := w2.heap.size) (Nat.le_refl _)
  have nb_0_w0 : w.heap.size ∉ f3_0 := fun hy => Nat.lt_irrefl _ (Nat.lt_of_lt_of_le rr2_0.lt ((F3_0b.2 _ hy).1))
  have G3 : Below w.heap.size w w3 := G2.trans (L3.mono G2.size)
  have F3_0c := F3_0b.mono (base' := w.heap.size) (G2.size)
  have kc3_0 := rr3_0.cell
  clear rr2_0 G2 F3_0 F3_0b kc2_0 L3 hb3
  go_wp2_with fail
  refine (x0.toSaid _ _ _ ((hx0.below G3)) hw0).mono ?_
  rintro e w4 ⟨f4, cc4, rfl, S4, F4, hb4⟩
  obtain ⟨u_x00, u_x01, u_x02, u_x03, g_x00, g_x01, g_x02, g_x03, hqf, rfl, hU_x00, hU_x01, hU_x02, hU_x03⟩ := GPart.opened.1 S4
  clear hqf
  obtain ⟨A_x00, d_x00, rfl, hqa, hqb⟩ := hU_x00.formT
  clear hqa hqb hU_x00
  obtain ⟨A_x01, d_x01, rfl, hqa, hqb⟩ := hU_x01.formT
  clear hqa hqb hU_x01
  obtain ⟨A_x02, d_x02, rfl, hqa, hqb⟩ := hU_x02.formT
  clear hqa hqb hU_x02
  obtain ⟨A_x03, d_x03, rfl, hqa, hqb⟩ := hU_x03.formT
  clear hqa hqb hU_x03
  have L4 : Below w3.heap.size w3 w4 := hb4
  have rr4_0 := rr3_0.below L4
  have F4b := F4.mono (base' := w3.heap.size) (Nat.le_refl _)
  have D_w0_x0 : ∀ x ∈ f3_0, x ∉ f4 := fun x hx hy => Nat.lt_irrefl _ (Nat.lt_of_lt_of_le (R.lt S3_0 x hx) ((F4b.2 x hy).1))
  have nb_0_x0 : w.heap.size ∉ f4 := fun hy => Nat.lt_irrefl _ (Nat.lt_of_lt_of_le rr3_0.lt ((F4b.2 _ hy).1))
  have G4 : Below w.heap.size w w4 := G3.trans (L4.mono G3.size)
  have F4c := F4b.mono (base' := w.heap.size) (G3.size)
  have S4_w0 := S3_0.below L4
  have F4_w0 := F3_0c.below (R.lt S3_0) L4
  have kc4_0 := rr4_0.cell
  have kj4_0 := fun o => (rr4_0.below ((Below.refl w4.heap.size w4).alloc (Nat.le_refl _) o)).cell
  clear rr3_0 G3 F4 F4b S3_0 F3_0c kc3_0 L4 hb4
  have nb_1_w0 : w4.heap.size ∉ f3_0 := fun hy => by have := R.lt S4_w0 _ hy; omega
  have nb_1_x0 : w4.heap.size ∉ f4 := fun hy => by have := R.lt S4 _ hy; omega
  go_wp2_with fail
  refine (usesOf_impl_law x0 _ _ _ (S4.below ((Below.refl _ _).alloc (Nat.le_refl _) _)) hwe0).mono ?_
  rintro e w5 ⟨f5_0, vv5_0, rfl, S5_0, F5_0, hb5⟩
  obtain ⟨A_g0, d_g0, rfl, hqa, hqb⟩ := S5_0.formT
  clear hqa hqb
  obtain ⟨rw5_0, hz5, L5⟩ := rows1 hb5
  have rr5_0 := rr4_0.below L5
  have F5_0b := F5_0.mono (base' := w4.heap.size) (by simp; try omega)
  have D_w0_g0 : ∀ x ∈ f3_0, x ∉ f5_0 := fun x hx hy => Nat.lt_irrefl _ (Nat.lt_of_lt_of_le (R.lt S4_w0 x hx) ((F5_0b.2 x hy).1))
  have D_x0_g0 : ∀ x ∈ f4, x ∉ f5_0 := fun x hx hy => Nat.lt_irrefl _ (Nat.lt_of_lt_of_le (R.lt S4 x hx) ((F5_0b.2 x hy).1))
  have nb_0_g0 : w.heap.size ∉ f5_0 := fun hy => Nat.lt_irrefl _ (Nat.lt_of_lt_of_le rr4_0.lt ((F5_0b.2 _ hy).1))
  have nb_1_g0 : w4.heap.size ∉ f5_0 := fun hy => by have := (F5_0.2 _ hy).1; simp at this; try omega
  have G5 : Below w.heap.size w w5 := G4.trans (L5.mono G4.size)
  have F5_0c := F5_0b.mono (base' := w.heap.size) (G4.size)
  have S5_w0 := S4_w0.below L5
  have F5_w0 := F4_w0.below (R.lt S4_w0) L5
  have S5_x0 := S4.below L5
  have F5_x0 := F4c.below (R.lt S4) L5
  have kc5_0 := rr5_0.cell
  have kc5_1 := rw5_0.cell
  clear rr4_0 G4 F5_0 F5_0b S4_w0 F4_w0 S4 F4c kc4_0 kj4_0 L5 hb5 hz5
  go_wp2_with fail
  refine (StringS_eqSaid (usesL x0) _ _ _ _ _ (S5_0) (S5_w0)).mono ?_
  rintro e w6 ⟨rfl, hb6⟩
  have L6 : Below w5.heap.size w5 w6 := hb6
  have rr6_0 := rr5_0.below L6
  have rr6_1 := rw5_0.below L6
  have G6 : Below w.heap.size w w6 := G5.trans (L6.mono G5.size)
  have S6_w0 := S5_w0.below L6
  have F6_w0 := F5_w0.below (R.lt S5_w0) L6
  have S6_x0 := S5_x0.below L6
  have F6_x0 := F5_x0.below (R.lt S5_x0) L6
  have S6_g0 := S5_0.below L6
  have F6_g0 := F5_0c.below (R.lt S5_0) L6
  have kc6_0 := rr6_0.cell
  have kc6_1 := rr6_1.cell
  clear rr5_0 rw5_0 G5 S5_w0 F5_w0 S5_x0 F5_x0 S5_0 F5_0c kc5_0 kc5_1 L6 hb6
  go_wp2_with fail
  have tok1 : True := trivial
  have tok2 : True := trivial
  go_region_held3 (fun w' => w'.cell? ⟨w.heap.size, 0, none⟩ = some (.int .i64 x0.kind) ∧ w'.cell? ⟨w.heap.size, 1, none⟩ = some (.string x0.name) ∧ w'.cell? ⟨w.heap.size, 2, none⟩ = some (.int .i64 x0.expr.kind) ∧ w'.cell? ⟨w.heap.size, 3, none⟩ = some (.int .i64 x0.expr.n) ∧ w'.cell? ⟨w.heap.size, 4, none⟩ = some (.string x0.expr.text) ∧ w'.cell? ⟨w.heap.size, 5, none⟩ = some (.slice A0_0 x0.expr.args.length d0_0) ∧ w'.cell? ⟨w.heap.size, 6, none⟩ = some (.int .i64 x0.value.kind) ∧ w'.cell? ⟨w.heap.size, 7, none⟩ = some (.int .i64 x0.value.n) ∧ w'.cell? ⟨w.heap.size, 8, none⟩ = some (.int .i64 x0.value.step) ∧ w'.cell? ⟨w.heap.size, 9, none⟩ = some (.string x0.value.text) ∧ w'.cell? ⟨w.heap.size, 10, none⟩ = some (.slice A0_1 x0.value.list.length d0_1) ∧ w'.cell? ⟨w.heap.size, 11, none⟩ = some (.slice A0_2 x0.value.cols.length d0_2) ∧ w'.cell? ⟨w.heap.size, 12, none⟩ = some (.slice A0_3 x0.value.rows.length d0_3) ∧ w'.cell? ⟨w.heap.size, 13, none⟩ = some (.int .i64 x0.pos) ∧ w'.cell? ⟨w4.heap.size, 0, none⟩ = some (.int .i64 (x0).kind) ∧ w'.cell? ⟨w4.heap.size, 1, none⟩ = some (.string (x0).name) ∧ w'.cell? ⟨w4.heap.size, 2, none⟩ = some (.int .i64 (x0).expr.kind) ∧ w'.cell? ⟨w4.heap.size, 3, none⟩ = some (.int .i64 (x0).expr.n) ∧ w'.cell? ⟨w4.heap.size, 4, none⟩ = some (.string (x0).expr.text) ∧ w'.cell? ⟨w4.heap.size, 5, none⟩ = some (.slice A_x00 (x0).expr.args.length d_x00) ∧ w'.cell? ⟨w4.heap.size, 6, none⟩ = some (.int .i64 (x0).value.kind) ∧ w'.cell? ⟨w4.heap.size, 7, none⟩ = some (.int .i64 (x0).value.n) ∧ w'.cell? ⟨w4.heap.size, 8, none⟩ = some (.int .i64 (x0).value.step) ∧ w'.cell? ⟨w4.heap.size, 9, none⟩ = some (.string (x0).value.text) ∧ w'.cell? ⟨w4.heap.size, 10, none⟩ = some (.slice A_x01 (x0).value.list.length d_x01) ∧ w'.cell? ⟨w4.heap.size, 11, none⟩ = some (.slice A_x02 (x0).value.cols.length d_x02) ∧ w'.cell? ⟨w4.heap.size, 12, none⟩ = some (.slice A_x03 (x0).value.rows.length d_x03) ∧ w'.cell? ⟨w4.heap.size, 13, none⟩ = some (.int .i64 (x0).pos)) (go_keep)
    (first
    | (go_at_call 42; have _t := tok1; refine (x0.toSaid _ _ _ ((hx0.below G6).below (Below.refl _ _).drew) hw0).mono ?_; rintro e w7 ⟨f7, cc7, rfl, S7, F7, hb7⟩; obtain ⟨u_t30, u_t31, u_t32, u_t33, g_t30, g_t31, g_t32, g_t33, hqf, rfl, hU_t30, hU_t31, hU_t32, hU_t33⟩ := GPart.opened.1 S7; clear hqf; obtain ⟨A_t30, d_t30, rfl, hqa, hqb⟩ := hU_t30.formT; clear hqa hqb hU_t30; obtain ⟨A_t31, d_t31, rfl, hqa, hqb⟩ := hU_t31.formT; clear hqa hqb hU_t31; obtain ⟨A_t32, d_t32, rfl, hqa, hqb⟩ := hU_t32.formT; clear hqa hqb hU_t32; obtain ⟨A_t33, d_t33, rfl, hqa, hqb⟩ := hU_t33.formT; clear hqa hqb hU_t33; have hb7 := (Below.refl _ _).drew.trans hb7; have L7 : Below w6.heap.size w6 w7 := hb7; have rr7_0 := rr6_0.below L7; have rr7_1 := rr6_1.below L7; have F7b := F7.mono (base' := w6.heap.size) (Nat.le_refl _); have D_w0_t3 : ∀ x ∈ f3_0, x ∉ f7 := fun x hx hy => Nat.lt_irrefl _ (Nat.lt_of_lt_of_le (R.lt S6_w0 x hx) ((F7b.2 x hy).1)); have D_x0_t3 : ∀ x ∈ f4, x ∉ f7 := fun x hx hy => Nat.lt_irrefl _ (Nat.lt_of_lt_of_le (R.lt S6_x0 x hx) ((F7b.2 x hy).1)); have D_g0_t3 : ∀ x ∈ f5_0, x ∉ f7 := fun x hx hy => Nat.lt_irrefl _ (Nat.lt_of_lt_of_le (R.lt S6_g0 x hx) ((F7b.2 x hy).1)); have nb_0_t3 : w.heap.size ∉ f7 := fun hy => Nat.lt_irrefl _ (Nat.lt_of_lt_of_le rr6_0.lt ((F7b.2 _ hy).1)); have nb_1_t3 : w4.heap.size ∉ f7 := fun hy => Nat.lt_irrefl _ (Nat.lt_of_lt_of_le rr6_1.lt ((F7b.2 _ hy).1)); have G7 : Below w.heap.size w w7 := G6.trans (L7.mono G6.size); have F7c := F7b.mono (base' := w.heap.size) (G6.size); have S7_w0 := S6_w0.below L7; have F7_w0 := F6_w0.below (R.lt S6_w0) L7; have S7_x0 := S6_x0.below L7; have F7_x0 := F6_x0.below (R.lt S6_x0) L7; have S7_g0 := S6_g0.below L7; have F7_g0 := F6_g0.below (R.lt S6_g0) L7; have kc7_0 := rr7_0.cell; have kc7_1 := rr7_1.cell; clear rr6_0 rr6_1 G6 F7 F7b S6_w0 F6_w0 S6_x0 F6_x0 S6_g0 F6_g0 kc6_0 kc6_1 L7 hb7; clear tok1)
    | (go_at_call 45; have _t := tok2; refine (GPart.eqSaid (x0) _ _ _ _ _ (S7_x0) (S7)).mono ?_; rintro e w8 ⟨rfl, hb8⟩; have L8 : Below w7.heap.size w7 w8 := hb8; have rr8_0 := rr7_0.below L8; have rr8_1 := rr7_1.below L8; have G8 : Below w.heap.size w w8 := G7.trans (L8.mono G7.size); have S8_w0 := S7_w0.below L8; have F8_w0 := F7_w0.below (R.lt S7_w0) L8; have S8_x0 := S7_x0.below L8; have F8_x0 := F7_x0.below (R.lt S7_x0) L8; have S8_g0 := S7_g0.below L8; have F8_g0 := F7_g0.below (R.lt S7_g0) L8; have kc8_0 := rr8_0.cell; have kc8_1 := rr8_1.cell; clear rr7_0 rr7_1 G7 S7_w0 F7_w0 S7_x0 F7_x0 S7_g0 F7_g0 kc7_0 kc7_1 L8 hb8; clear tok2))
  go_wp2_with fail
  refine (GPart.mark (x0) _ _ _ _ (S8_x0) (F8_x0.mono (Nat.zero_le _)) (by omega) (by omega)).mono ?_
  rintro e w9 ⟨rfl, SM9, hb9⟩
  have rr9_0 := rr8_0.touch hb9 nb_0_x0
  have rr9_1 := rr8_1.touch hb9 nb_1_x0
  have G9 : Below w.heap.size w w9 := Touch.toBelow G8 hb9 (fun x hx => (F8_x0.2 x hx).1) G8.size
  have S9_w0 := S8_w0.touch hb9 D_w0_x0
  have F9_w0 := F8_w0.touch (R.lt S8_w0) hb9
  have S9_g0 := S8_g0.touch hb9 (fun x hx hy => D_x0_g0 x hy hx)
  have F9_g0 := F8_g0.touch (R.lt S8_g0) hb9
  have F9_x0 := F8_x0.touch (R.lt S8_x0) hb9
  have kc9_0 := rr9_0.cell
  have kc9_1 := rr9_1.cell
  clear rr8_0 rr8_1 G8 S8_w0 F8_w0 S8_g0 F8_g0 S8_x0 F8_x0 kc8_0 kc8_1 hb9
  go_wp2_with fail
  refine (StringS_eqSaid (usesL x0) _ _ _ _ _ (S9_g0) (S9_w0)).mono ?_
  rintro e w10 ⟨rfl, hb10⟩
  have L10 : Below w9.heap.size w9 w10 := hb10
  have rr10_0 := rr9_0.below L10
  have rr10_1 := rr9_1.below L10
  have G10 : Below w.heap.size w w10 := G9.trans (L10.mono G9.size)
  have S10_w0 := S9_w0.below L10
  have F10_w0 := F9_w0.below (R.lt S9_w0) L10
  have S10_g0 := S9_g0.below L10
  have F10_g0 := F9_g0.below (R.lt S9_g0) L10
  have kc10_0 := rr10_0.cell
  have kc10_1 := rr10_1.cell
  clear rr9_0 rr9_1 G9 S9_w0 F9_w0 S9_g0 F9_g0 kc9_0 kc9_1 L10 hb10
  go_wp2_with fail
  refine (StringS_mark (usesL x0) _ _ _ _ (S10_g0) (F10_g0.mono (Nat.zero_le _)) (by omega) (by omega)).mono ?_
  rintro e w11 ⟨rfl, SM11, hb11⟩
  have rr11_0 := rr10_0.touch hb11 nb_0_g0
  have rr11_1 := rr10_1.touch hb11 nb_1_g0
  have G11 : Below w.heap.size w w11 := Touch.toBelow G10 hb11 (fun x hx => (F10_g0.2 x hx).1) G10.size
  have S11_w0 := S10_w0.touch hb11 D_w0_g0
  have F11_w0 := F10_w0.touch (R.lt S10_w0) hb11
  have F11_g0 := F10_g0.touch (R.lt S10_g0) hb11
  have kc11_0 := rr11_0.cell
  have kc11_1 := rr11_1.cell
  clear rr10_0 rr10_1 G10 S10_w0 F10_w0 S10_g0 F10_g0 kc10_0 kc10_1 hb11
  go_wp2_with fail
  refine (StringS_held (usesL x0) _ _ _ _ (SM11) (by omega) (by omega)).mono ?_
  rintro e w12 ⟨rfl, hb12⟩
  have L12 : Below w11.heap.size w11 w12 := hb12
  have rr12_0 := rr11_0.below L12
  have rr12_1 := rr11_1.below L12
  have G12 : Below w.heap.size w w12 := G11.trans (L12.mono G11.size)
  have S12_w0 := S11_w0.below L12
  have F12_w0 := F11_w0.below (R.lt S11_w0) L12
  have S12_g0 := SM11.below L12
  have F12_g0 := F11_g0.below (R.lt SM11) L12
  have kc12_0 := rr12_0.cell
  have kc12_1 := rr12_1.cell
  clear rr11_0 rr11_1 G11 S11_w0 F11_w0 SM11 F11_g0 kc11_0 kc11_1 L12 hb12
  go_wp2_with fail
  refine (x0.toSaid _ _ _ ((hx0.below G12)) hw0).mono ?_
  rintro e w13 ⟨f13, cc13, rfl, S13, F13, hb13⟩
  obtain ⟨u_t40, u_t41, u_t42, u_t43, g_t40, g_t41, g_t42, g_t43, hqf, rfl, hU_t40, hU_t41, hU_t42, hU_t43⟩ := GPart.opened.1 S13
  clear hqf
  obtain ⟨A_t40, d_t40, rfl, hqa, hqb⟩ := hU_t40.formT
  clear hqa hqb hU_t40
  obtain ⟨A_t41, d_t41, rfl, hqa, hqb⟩ := hU_t41.formT
  clear hqa hqb hU_t41
  obtain ⟨A_t42, d_t42, rfl, hqa, hqb⟩ := hU_t42.formT
  clear hqa hqb hU_t42
  obtain ⟨A_t43, d_t43, rfl, hqa, hqb⟩ := hU_t43.formT
  clear hqa hqb hU_t43
  have L13 : Below w12.heap.size w12 w13 := hb13
  have rr13_0 := rr12_0.below L13
  have rr13_1 := rr12_1.below L13
  have F13b := F13.mono (base' := w12.heap.size) (Nat.le_refl _)
  have D_w0_t4 : ∀ x ∈ f3_0, x ∉ f13 := fun x hx hy => Nat.lt_irrefl _ (Nat.lt_of_lt_of_le (R.lt S12_w0 x hx) ((F13b.2 x hy).1))
  have D_g0_t4 : ∀ x ∈ f5_0, x ∉ f13 := fun x hx hy => Nat.lt_irrefl _ (Nat.lt_of_lt_of_le (R.lt S12_g0 x hx) ((F13b.2 x hy).1))
  have nb_0_t4 : w.heap.size ∉ f13 := fun hy => Nat.lt_irrefl _ (Nat.lt_of_lt_of_le rr12_0.lt ((F13b.2 _ hy).1))
  have nb_1_t4 : w4.heap.size ∉ f13 := fun hy => Nat.lt_irrefl _ (Nat.lt_of_lt_of_le rr12_1.lt ((F13b.2 _ hy).1))
  have G13 : Below w.heap.size w w13 := G12.trans (L13.mono G12.size)
  have F13c := F13b.mono (base' := w.heap.size) (G12.size)
  have S13_w0 := S12_w0.below L13
  have F13_w0 := F12_w0.below (R.lt S12_w0) L13
  have S13_g0 := S12_g0.below L13
  have F13_g0 := F12_g0.below (R.lt S12_g0) L13
  have kc13_0 := rr13_0.cell
  have kc13_1 := rr13_1.cell
  clear rr12_0 rr12_1 G12 F13 F13b S12_w0 F12_w0 S12_g0 F12_g0 kc12_0 kc12_1 L13 hb13
  go_wp2_with fail
  refine (usesOf_impl_law x0 _ _ _ (S13) hwe0).mono ?_
  rintro e w14 ⟨f14_0, vv14_0, rfl, S14_0, F14_0, hb14⟩
  obtain ⟨A_h0, d_h0, rfl, hqa, hqb⟩ := S14_0.formT
  clear hqa hqb
  have L14 : Below w13.heap.size w13 w14 := hb14
  have rr14_0 := rr13_0.below L14
  have rr14_1 := rr13_1.below L14
  have F14_0b := F14_0.mono (base' := w13.heap.size) (Nat.le_refl _)
  have D_w0_h0 : ∀ x ∈ f3_0, x ∉ f14_0 := fun x hx hy => Nat.lt_irrefl _ (Nat.lt_of_lt_of_le (R.lt S13_w0 x hx) ((F14_0b.2 x hy).1))
  have D_g0_h0 : ∀ x ∈ f5_0, x ∉ f14_0 := fun x hx hy => Nat.lt_irrefl _ (Nat.lt_of_lt_of_le (R.lt S13_g0 x hx) ((F14_0b.2 x hy).1))
  have nb_0_h0 : w.heap.size ∉ f14_0 := fun hy => Nat.lt_irrefl _ (Nat.lt_of_lt_of_le rr13_0.lt ((F14_0b.2 _ hy).1))
  have nb_1_h0 : w4.heap.size ∉ f14_0 := fun hy => Nat.lt_irrefl _ (Nat.lt_of_lt_of_le rr13_1.lt ((F14_0b.2 _ hy).1))
  have G14 : Below w.heap.size w w14 := G13.trans (L14.mono G13.size)
  have F14_0c := F14_0b.mono (base' := w.heap.size) (G13.size)
  have S14_w0 := S13_w0.below L14
  have F14_w0 := F13_w0.below (R.lt S13_w0) L14
  have S14_g0 := S13_g0.below L14
  have F14_g0 := F13_g0.below (R.lt S13_g0) L14
  have kc14_0 := rr14_0.cell
  have kc14_1 := rr14_1.cell
  clear rr13_0 rr13_1 G13 F14_0 F14_0b S13_w0 F13_w0 S13_g0 F13_g0 kc13_0 kc13_1 L14 hb14
  go_wp2_with fail
  refine (StringS_eqSaid (usesL x0) _ _ _ _ _ (S14_0) (S14_w0)).mono ?_
  rintro e w15 ⟨rfl, hb15⟩
  have L15 : Below w14.heap.size w14 w15 := hb15
  have rr15_0 := rr14_0.below L15
  have rr15_1 := rr14_1.below L15
  have G15 : Below w.heap.size w w15 := G14.trans (L15.mono G14.size)
  have S15_w0 := S14_w0.below L15
  have F15_w0 := F14_w0.below (R.lt S14_w0) L15
  have S15_g0 := S14_g0.below L15
  have F15_g0 := F14_g0.below (R.lt S14_g0) L15
  have S15_h0 := S14_0.below L15
  have F15_h0 := F14_0c.below (R.lt S14_0) L15
  have kc15_0 := rr15_0.cell
  have kc15_1 := rr15_1.cell
  clear rr14_0 rr14_1 G14 S14_w0 F14_w0 S14_g0 F14_g0 S14_0 F14_0c kc14_0 kc14_1 L15 hb15
  go_wp2_with fail
  refine (StringS_held (usesL x0) _ _ _ _ (S15_g0) (by omega) (by omega)).mono ?_
  rintro e w16 ⟨rfl, hb16⟩
  have L16 : Below w15.heap.size w15 w16 := hb16
  have rr16_0 := rr15_0.below L16
  have rr16_1 := rr15_1.below L16
  have G16 : Below w.heap.size w w16 := G15.trans (L16.mono G15.size)
  have S16_g0 := S15_g0.below L16
  have F16_g0 := F15_g0.below (R.lt S15_g0) L16
  have kc16_0 := rr16_0.cell
  have kc16_1 := rr16_1.cell
  clear rr15_0 rr15_1 G15 S15_g0 F15_g0 kc15_0 kc15_1 L16 hb16
  go_wp2_with fail
  go_ret
  exact ⟨rfl, G16⟩

open Go.ChangeShapes Go.WideShapes Go.ChangeAt
set_option maxRecDepth 100000 in
theorem lifted_FnExactUsesOf (os : Os) (started : os.Started) (H : Type) (enc : TypeId × Value → H) :
    ReturnsInHanded {} Try.checked os 7 .any (Rows.fnExactUsesOfSpec.pre6 enc Try.prog Try.f7 Rows.fnExactUsesOfRow.domain false) (Rows.fnExactUsesOfSpec.post enc Try.prog Try.f7 false true false false) := by
  refine returnsInHanded_of_change (C := Try.checked) own_ started (by kernel_rfl) Try.func7
    (ChangeSpec.witness6 (enc := enc) (C := Try.checked) false ⟨#[], #[.agg #[.int .i64 0, .string .empty, .int .i64 0, .int .i64 0, .string .empty, .slice none 0 0, .int .i64 0, .int .i64 0, .int .i64 0, .string .empty, .slice none 0 0, .slice none 0 0, .slice none 0 0, .int .i64 0]], []⟩ 8 (by kernel_rfl) (by kernel_rfl) (by kernel_rfl) (by kernel_rfl)) ?_
  intro W base args ds gs before hval0 hW hcnd _
  have hval : ∀ (j : Nat) t v, Try.f7.params[j]? = some t → args[j]? = some v → Value.okWide Try.prog W .any base t v := hval0
  have hW' := hW
  obtain ⟨p, q, hA0, hV, rfl, hfz, hnd⟩ := hW
  have hA : DataW.TrodAll enc Try.prog W 0 (fun _ => true) true Try.f7.params.toList args.toList ds p := hA0
  rw [Try.params7] at hA hval
  obtain ⟨v0, vs0, d0, ds0, p0, q0, ha0, rfl, rfl, h0, r0⟩ := trodAll_cons hA
  obtain ⟨rfl, rfl, rfl⟩ := trodAll_nil r0
  obtain rfl : args = #[v0] := by cases args; simp_all
  obtain ⟨rfl, rfl⟩ := trodVars_none hV
  obtain ⟨x0, fx0, cx0, rfl, hx0, wx0⟩ := arg_struct Try.underlying67 (hval 0 67 v0 rfl rfl) (fun n => rd_GPart n) h0
  clear hA0 hval0
  have hlt : ∀ z ∈ p0 ++ [], z.block < W.heap.size := fun z hz => hW'.lt z (by simpa using hz)
  refine (law_FnExactUsesOf x0 fx0 cx0 W hx0 wx0).mono fun e W' ⟨he, hb⟩ => ?_
  subst he
  exact ⟨_, rfl, post_of_below (pa := p0 ++ []) (pv := []) hW' (fun _ _ _ => trodAll_mk1 (shut_bool Try.underlying4 _))
    (fun sp hsp => ⟨_, _, WideElems.Trod_stays laidOut_ (by kernel_rfl) (of_decide_eq_true (by kernel_rfl)) h0 (fun z hz => hb.same (hlt z (List.mem_append_left _ hz))) (fun z hz => hsp z (by simp [hz])), rfl, rfl⟩) (fun _ _ => rfl) (by simp) hb (ok_one (by kernel_rfl) rfl (okWide_bool_mk Try.underlying4 _))⟩

theorem proved_FnExactUsesOf : Rows.FnExactUsesOfSaid :=
  OpenClaim.holds_of_wide 7 Try.f7 rfl rfl rfl rfl rfl rfl rfl ⟨rfl, rfl, rfl, rfl, rfl⟩ rfl rfl rfl rfl rfl (by kernel_rfl) Try.func7 (by kernel_rfl)
    (of_decide_eq_true (by kernel_rfl)) (by unfold Func.isWrapper; first | (rw [if_pos (by decide +kernel)]; kernel_rfl) | (rw [if_neg (by decide +kernel)]; exact ⟨rfl, rfl⟩))
    (fun os started H enc _ => lifted_FnExactUsesOf os started H enc)
end Go.Proofs.Ytncbhiehgkohjaa
