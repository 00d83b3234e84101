/-
  The program's ApplyEdit returns what the reference's returns, for all arguments. No condition.
-/
import Derived.Test.YtokplliaejbbdaaFin
import Derived.Test.YtokplliaejbbdaaSz
import Derived.Test.YtokplliaejbbdaaTo
import Derived.Test.YtokplliaejbbdaaEq
import Derived.Test.YtokplliaejbbdaaMarks
import Derived.Test.YtokplliaejbbdaaBox
import Derived.Test.YtokplliaejbbdaaEdit5
namespace Go.Proofs.Ytokplliaejbbdaa
open Go.RowKit
set_option linter.unusedSimpArgs false
set_option linter.unusedVariables false

theorem mid_FnExactApplyEdit_5 {P : Program} {code : Code} {Q : Exit → Act → World → Prop} {a : Act} {w : World} (F : Nat → Option Addr → Nat → Option Addr → Nat → Act) (Φ : Nat → Option Addr → Nat → Option Addr → Nat → World → Prop)
    (h : code.wp P (fun e a' w' => e = .normal ∧ ∃ bx A_t10 d_t10 A_w00 d_w00, a' = F bx A_t10 d_t10 A_w00 d_w00 ∧ Φ bx A_t10 d_t10 A_w00 d_w00 w') a w) (k : ∀ bx A_t10 d_t10 A_w00 d_w00 w', Φ bx A_t10 d_t10 A_w00 d_w00 w' → Q .normal (F bx A_t10 d_t10 A_w00 d_w00) w') : code.wp P Q a w :=
  Code.wp_mono (fun e a' w' ⟨he, bx, A_t10, d_t10, A_w00, d_w00, ha, hf⟩ => by
    subst he
    subst ha
    exact k _ _ _ _ _ w' hf) h
theorem mid_FnExactApplyEdit_7 {P : Program} {code : Code} {Q : Exit → Act → World → Prop} {a : Act} {w : World} (F : Nat → Option Addr → Nat → Act) (Φ : Nat → Option Addr → Nat → World → Prop)
    (h : code.wp P (fun e a' w' => e = .normal ∧ ∃ bx A_g00 d_g00, a' = F bx A_g00 d_g00 ∧ Φ bx A_g00 d_g00 w') a w) (k : ∀ bx A_g00 d_g00 w', Φ bx A_g00 d_g00 w' → Q .normal (F bx A_g00 d_g00) w') : code.wp P Q a w :=
  Code.wp_mono (fun e a' w' ⟨he, bx, A_g00, d_g00, ha, hf⟩ => by
    subst he
    subst ha
    exact k _ _ _ w' hf) h
theorem mid_FnExactApplyEdit_19 {P : Program} {code : Code} {Q : Exit → Act → World → Prop} {a : Act} {w : World} (F : Nat → Option Addr → Nat → Option Addr → Nat → Act) (Φ : Nat → Option Addr → Nat → Option Addr → Nat → World → Prop)
    (h : code.wp P (fun e a' w' => e = .normal ∧ ∃ bx A_t60 d_t60 A_h00 d_h00, a' = F bx A_t60 d_t60 A_h00 d_h00 ∧ Φ bx A_t60 d_t60 A_h00 d_h00 w') a w) (k : ∀ bx A_t60 d_t60 A_h00 d_h00 w', Φ bx A_t60 d_t60 A_h00 d_h00 w' → Q .normal (F bx A_t60 d_t60 A_h00 d_h00) w') : code.wp P Q a w :=
  Code.wp_mono (fun e a' w' ⟨he, bx, A_t60, d_t60, A_h00, d_h00, ha, hf⟩ => by
    subst he
    subst ha
    exact k _ _ _ _ _ w' hf) h
set_option maxRecDepth 40000 in
set_option maxHeartbeats 8000000 in
theorem law_FnExactApplyEdit (x0 : GNb) (fx0 : List Nat) (cx0 : List Value) (x1 : GEdit) (fx1 : List Nat) (cx1 : List Value) (w : World) (hx0 : R w x0.toD fx0 cx0) (wx0 : x0.toD.wf) (hx1 : R w x1.toD fx1 cx1) (wx1 : x1.toD.wf) :
    Calls Try.prog 3 #[.agg cx0.toArray, .agg cx1.toArray] w (TruePost w) := by
  obtain ⟨u0_0, g0_0, rfl, rfl, hU0_0⟩ := GNb.opened.1 hx0
  obtain ⟨A0_0, d0_0, rfl, hqa, hqb⟩ := hU0_0.formT
  clear hqa hqb hU0_0
  obtain ⟨rfl, rfl⟩ := GEdit.opened.1 hx1
  go_enter Try.func3, Try.ntmps3
  go_wp2_with fail
  refine (x0.szSaid _ _ _ _ (hx0.below (((Below.refl _ _).alloc (Nat.le_refl _) _).alloc (by simp) _)) wx0 (by omega) (by omega)).mono ?_
  rintro e w1 ⟨r1, rfl, hr1, hqa, hqb, hb1⟩
  obtain ⟨rw1_0, rw1_1, hz1, L1⟩ := rows2 hb1
  have G1 : Below w.heap.size w w1 := L1
  have kc1_0 := rw1_0.cell
  have kc1_1 := rw1_1.cell
  clear L1 hb1 hz1
  go_wp2_with fail
  · go_ret
    exact ⟨rfl, G1⟩
  refine (x1.szSaid _ _ _ _ ((hx1.below G1)) wx1 (by omega) (by omega)).mono ?_
  rintro e w2 ⟨r2, rfl, hr2, hqa, hqb, hb2⟩
  have L2 : Below w1.heap.size w1 w2 := hb2
  have rr2_0 := rw1_0.below L2
  have rr2_1 := rw1_1.below L2
  have G2 : Below w.heap.size w w2 := G1.trans (L2.mono G1.size)
  have kc2_0 := rr2_0.cell
  have kc2_1 := rr2_1.cell
  clear rw1_0 rw1_1 G1 kc1_0 kc1_1 L2 hb2
  go_wp2_with fail
  · go_ret
    exact ⟨rfl, G2⟩
  have hw0 : x0.toD.wt ≤ 1048576 := by have := hr1.le (by omega); have := hr2.le (by omega); omega
  have hw1 : x1.toD.wt ≤ 1048576 := by have := hr1.le (by omega); have := hr2.le (by omega); omega
  have hc0 : x0.toD.acnt ≤ 14680080 := by have := D.acnt_le x0.toD; have := D.cnt_le _ (x0.thin); have := GNb.sz_eq x0; omega
  have hc1 : x1.toD.acnt ≤ 14680080 := by have := D.acnt_le x1.toD; have := D.cnt_le _ (x1.thin); have := GEdit.sz_eq x1; omega
  have hn0 : x0.cells.length ≤ 1048576 := by have := hw0; simp [GNb.toD_eq, D.wt, D.wts] at this; omega
  have hcr : (GNb.toD ⟨(app x0.cells x1).1⟩).acnt ≤ 14680080 := by have h1 := app_len x0.cells x1; have h2 := cnts_cells (app x0.cells x1).1; simp only [GNb.toD_eq, D.acnt, D.acnts]; omega
  clear hr1 hr2
  have hq2_0 := rr2_0.lt
  have hq2_1 := rr2_1.lt
  apply mid_FnExactApplyEdit_5 (Φ := fun bx A_t10 d_t10 A_w00 d_w00 w' => Below w2.heap.size w2 w' ∧ (∃ f, R w' (⟨(app x0.cells x1).1⟩ : GNb).toD f [.slice A_w00 ((⟨(app x0.cells x1).1⟩ : GNb)).cells.length d_w00] ∧ FreeW w' w2.heap.size f ∧ bx ∉ f) ∧ Row w' bx 33 [.slice A_w00 ((⟨(app x0.cells x1).1⟩ : GNb)).cells.length d_w00] ∧ w2.heap.size ≤ bx)
  · have tok1 : True := trivial
    have tok2 : True := trivial
    have tok3 : True := trivial
    go_region_held3 (fun w' => w'.cell? ⟨w.heap.size, 0, none⟩ = some (.slice A0_0 x0.cells.length d0_0) ∧ w'.cell? ⟨w.heap.size + 1, 0, none⟩ = some (.int .i64 x1.kind) ∧ w'.cell? ⟨w.heap.size + 1, 1, none⟩ = some (.int .i64 x1.pos) ∧ w'.cell? ⟨w.heap.size + 1, 2, none⟩ = some (.int .i64 x1.cell.id) ∧ w'.cell? ⟨w.heap.size + 1, 3, none⟩ = some (.int .i64 x1.cell.ver) ∧ w'.cell? ⟨w.heap.size + 1, 4, none⟩ = some (.int .i64 x1.cell.kind) ∧ w'.cell? ⟨w.heap.size + 1, 5, none⟩ = some (.string x1.cell.name) ∧ w'.cell? ⟨w.heap.size + 1, 6, none⟩ = some (.string x1.cell.code) ∧ w'.cell? ⟨w.heap.size + 1, 7, none⟩ = some (.int .i64 x1.cell.n)) (first | go_keep | ((try dsimp only); (repeat' apply And.intro) <;> first | (rw [setCell_cell (by dsimp only; omega)]; simp only [*]; done) | (rw [setCell_cell (by dsimp only; omega)]; simp [*]; done)))
      (first
      | (go_at_call 9; have _t := tok1; refine Calls.mono ((fun (W : World) (hB : Below w2.heap.size w2 W) => (x0.toSaid _ _ _ (hx0.below (G2.trans (Below.mono hB G2.size))) hw0)) _ ?_) ?_; (focus (repeat' (first | exact Below.refl _ _ | exact Nat.le_refl _ | apply Below.drew | apply Below.alloc | (simp; done) | (simp; omega)))); rintro e w3 ⟨f3, cc3, rfl, S3, F3, hb3⟩; obtain ⟨u_t10, g_t10, hqf, rfl, hU_t10⟩ := GNb.opened.1 S3; clear hqf; obtain ⟨A_t10, d_t10, rfl, hqa, hqb⟩ := hU_t10.formT; clear hqa hqb hU_t10; have hb3 := (Below.refl _ _).drew.trans hb3; (first | (have hq := rows1 (w := w2) hb3; obtain ⟨rb, hzb, C3⟩ := hq; clear hzb) | (have C3 : Below w2.heap.size w2 w3 := hb3)); have z3 := C3.size; have kc3_0 := (rr2_0.below C3).cell; have kj3_0 := fun o => ((rr2_0.below C3).below ((Below.refl w3.heap.size w3).alloc (Nat.le_refl _) o)).cell; have kc3_1 := (rr2_1.below C3).cell; have kj3_1 := fun o => ((rr2_1.below C3).below ((Below.refl w3.heap.size w3).alloc (Nat.le_refl _) o)).cell; (first | have krb3 := rb.cell | skip); (first | have ltb3 := rb.lt | skip); (first | have fzb3 := rb.frozen | skip); clear tok1)
      | (go_at_call 10; have _t := tok2; refine Calls.mono ((fun (W : World) (hB : Below w3.heap.size w3 W) => (x1.toSaid _ _ _ (hx1.below (G2.trans (Below.mono (C3.trans (Below.mono hB C3.size)) G2.size))) hw1)) _ ?_) ?_; (focus (repeat' (first | exact Below.refl _ _ | exact Nat.le_refl _ | apply Below.drew | apply Below.alloc | (simp; done) | (simp; omega)))); rintro e w4 ⟨f4, cc4, rfl, S4, F4, hb4⟩; obtain ⟨hqf, rfl⟩ := GEdit.opened.1 S4; clear hqf; (first | (have hq := rows1 (w := w3) hb4; obtain ⟨rb, hzb, LL4⟩ := hq; clear hzb) | (have LL4 : Below w3.heap.size w3 w4 := hb4; (first | have rb := rb.below LL4 | skip))); have C4 := C3.trans (LL4.mono C3.size); have S4_o0 := S3.below LL4; have z4 := C4.size; have kc4_0 := (rr2_0.below C4).cell; have kj4_0 := fun o => ((rr2_0.below C4).below ((Below.refl w4.heap.size w4).alloc (Nat.le_refl _) o)).cell; have kc4_1 := (rr2_1.below C4).cell; have kj4_1 := fun o => ((rr2_1.below C4).below ((Below.refl w4.heap.size w4).alloc (Nat.le_refl _) o)).cell; (first | have krb4 := rb.cell | skip); (first | have ltb4 := rb.lt | skip); (first | have fzb4 := rb.frozen | skip); clear tok2)
      | (go_at_call 8; have _t := tok3; refine Calls.mono ((fun (W : World) (hB : Below w4.heap.size w4 W) => (apply_spec_law x0 x1 _ _ _ _ _ (S4_o0.below hB) (S4.below hB) hn0 wx0.1 wx1)) _ ?_) ?_; (focus (repeat' (first | exact Below.refl _ _ | exact Nat.le_refl _ | apply Below.drew | apply Below.alloc | (simp; done) | (simp; omega)))); rintro e w5 ⟨f5_0, vv5_0, rfl, S5_0, F5_0, hb5⟩; obtain ⟨u_w00, g_w00, hqf, rfl, hU_w00⟩ := GNb.opened.1 S5_0; clear hqf; obtain ⟨A_w00, d_w00, rfl, hqa, hqb⟩ := hU_w00.formT; clear hqa hqb hU_w00; (first | (have hq := rows1 (w := w4) hb5; obtain ⟨rb, hzb, LL5⟩ := hq; clear hzb) | (have LL5 : Below w4.heap.size w4 w5 := hb5; (first | have rb := rb.below LL5 | skip))); have C5 := C4.trans (LL5.mono C4.size); have z5 := C5.size; have kc5_0 := (rr2_0.below C5).cell; have kj5_0 := fun o => ((rr2_0.below C5).below ((Below.refl w5.heap.size w5).alloc (Nat.le_refl _) o)).cell; have kc5_1 := (rr2_1.below C5).cell; have kj5_1 := fun o => ((rr2_1.below C5).below ((Below.refl w5.heap.size w5).alloc (Nat.le_refl _) o)).cell; (first | have krb5 := rb.cell | skip); (first | have ltb5 := rb.lt | skip); (first | have fzb5 := rb.frozen | skip); clear tok3))
    all_goals first
      | (obtain ⟨bx, hbx⟩ : ∃ b, b = w2.heap.size := ⟨_, rfl⟩; rw [← hbx]; refine ⟨rfl, bx, A_t10, d_t10, A_w00, d_w00, rfl, ?_⟩; subst hbx; have no_w0 : w2.heap.size ∉ f5_0 := fun hy => (by have h1 := (F5_0.2 _ hy).1; (try simp at h1); omega); exact ⟨(by repeat' (first | exact C5 | exact C5.size | apply Below.setCell | apply Below.alloc | (show _ ≤ _; dsimp only; omega))), ⟨_, (by repeat' (first | exact S5_0 | exact no_w0 | apply R.setCell)), freeWany F5_0 (by first | omega | (simp; omega)), no_w0⟩, (rb.set 0 _), (by first | omega | exact C5.size | exact Nat.le_refl _)⟩)
      | (obtain ⟨bx, hbx⟩ : ∃ b, b = w3.heap.size := ⟨_, rfl⟩; rw [← hbx]; refine ⟨rfl, bx, A_t10, d_t10, A_w00, d_w00, rfl, ?_⟩; subst hbx; have no_w0 : w3.heap.size ∉ f5_0 := fun hy => (by have h1 := (F5_0.2 _ hy).1; (try simp at h1); omega); exact ⟨(by repeat' (first | exact C5 | exact C5.size | apply Below.setCell | apply Below.alloc | (show _ ≤ _; dsimp only; omega))), ⟨_, (by repeat' (first | exact S5_0 | exact no_w0 | apply R.setCell)), freeWany F5_0 (by first | omega | (simp; omega)), no_w0⟩, (rb.set 0 _), (by first | omega | exact C5.size | exact Nat.le_refl _)⟩)
      | (obtain ⟨bx, hbx⟩ : ∃ b, b = w4.heap.size := ⟨_, rfl⟩; rw [← hbx]; refine ⟨rfl, bx, A_t10, d_t10, A_w00, d_w00, rfl, ?_⟩; subst hbx; have no_w0 : w4.heap.size ∉ f5_0 := fun hy => (by have h1 := (F5_0.2 _ hy).1; (try simp at h1); omega); exact ⟨(by repeat' (first | exact C5 | exact C5.size | apply Below.setCell | apply Below.alloc | (show _ ≤ _; dsimp only; omega))), ⟨_, (by repeat' (first | exact S5_0 | exact no_w0 | apply R.setCell)), freeWany F5_0 (by first | omega | (simp; omega)), no_w0⟩, (rb.set 0 _), (by first | omega | exact C5.size | exact Nat.le_refl _)⟩)
      | (obtain ⟨bx, hbx⟩ : ∃ b, b = w5.heap.size := ⟨_, rfl⟩; rw [← hbx]; refine ⟨rfl, bx, A_t10, d_t10, A_w00, d_w00, rfl, ?_⟩; subst hbx; exact ⟨(by repeat' (first | exact C5 | exact C5.size | apply Below.setCell | apply Below.alloc | (show _ ≤ _; dsimp only; omega))), ⟨_, dataLast S5_0, freeWany F5_0 (by first | omega | (simp; omega)), notLast S5_0⟩, rowLast, (by first | omega | exact C5.size | exact Nat.le_refl _)⟩)
  rintro bx A_t10 d_t10 A_w00 d_w00 w6 ⟨L6, ⟨f6_w0, S6_w0, F6_w0, nx6_w0⟩, hrow6, hge6⟩
  obtain ⟨bx6, rfl⟩ : ∃ z, z = bx := ⟨_, rfl⟩
  have F6_w0b := F6_w0.mono (base' := w2.heap.size) (Nat.le_refl _)
  have nb_0_w0 : w.heap.size ∉ f6_w0 := fun hy => Nat.lt_irrefl _ (Nat.lt_of_lt_of_le rr2_0.lt ((F6_w0b.2 _ hy).1))
  have nb_1_w0 : w.heap.size + 1 ∉ f6_w0 := fun hy => Nat.lt_irrefl _ (Nat.lt_of_lt_of_le rr2_1.lt ((F6_w0b.2 _ hy).1))
  have F6_w0c := F6_w0b.mono (base' := w.heap.size) G2.size
  have rr6_0 := rr2_0.below L6
  have rr6_1 := rr2_1.below L6
  have G6 : Below w.heap.size w w6 := G2.trans (L6.mono G2.size)
  have kc6_0 := rr6_0.cell
  have kc6_1 := rr6_1.cell
  have kc6_2 := hrow6.cell
  clear rr2_0 rr2_1 G2 kc2_0 kc2_1 L6
  go_wp2_with fail
  refine (x0.toSaid _ _ _ ((hx0.below G6)) hw0).mono ?_
  rintro e w7 ⟨f7, cc7, rfl, S7, F7, hb7⟩
  obtain ⟨u_x00, g_x00, hqf, rfl, hU_x00⟩ := GNb.opened.1 S7
  clear hqf
  obtain ⟨A_x00, d_x00, rfl, hqa, hqb⟩ := hU_x00.formT
  clear hqa hqb hU_x00
  have L7 : Below w6.heap.size w6 w7 := hb7
  have rr7_0 := rr6_0.below L7
  have rr7_1 := rr6_1.below L7
  have rr7_2 := hrow6.below L7
  have F7b := F7.mono (base' := w6.heap.size) (Nat.le_refl _)
  have D_w0_x0 : ∀ x ∈ f6_w0, x ∉ f7 := fun x hx hy => Nat.lt_irrefl _ (Nat.lt_of_lt_of_le (R.lt S6_w0 x hx) ((F7b.2 x hy).1))
  have nb_0_x0 : w.heap.size ∉ f7 := fun hy => Nat.lt_irrefl _ (Nat.lt_of_lt_of_le rr6_0.lt ((F7b.2 _ hy).1))
  have nb_1_x0 : w.heap.size + 1 ∉ f7 := fun hy => Nat.lt_irrefl _ (Nat.lt_of_lt_of_le rr6_1.lt ((F7b.2 _ hy).1))
  have nb_2_x0 : bx6 ∉ f7 := fun hy => Nat.lt_irrefl _ (Nat.lt_of_lt_of_le hrow6.lt ((F7b.2 _ hy).1))
  have G7 : Below w.heap.size w w7 := G6.trans (L7.mono G6.size)
  have F7c := F7b.mono (base' := w.heap.size) (G6.size)
  have S7_w0 := S6_w0.below L7
  have F7_w0 := F6_w0c.below (R.lt S6_w0) L7
  have kc7_0 := rr7_0.cell
  have kj7_0 := fun o => (rr7_0.below ((Below.refl w7.heap.size w7).alloc (Nat.le_refl _) o)).cell
  have kc7_1 := rr7_1.cell
  have kj7_1 := fun o => (rr7_1.below ((Below.refl w7.heap.size w7).alloc (Nat.le_refl _) o)).cell
  have kc7_2 := rr7_2.cell
  have kj7_2 := fun o => (rr7_2.below ((Below.refl w7.heap.size w7).alloc (Nat.le_refl _) o)).cell
  clear rr6_0 rr6_1 hrow6 G6 F7 F7b S6_w0 F6_w0c kc6_0 kc6_1 kc6_2 L7 hb7
  have nb_3_w0 : w7.heap.size ∉ f6_w0 := fun hy => by have := R.lt S7_w0 _ hy; omega
  have nb_3_x0 : w7.heap.size ∉ f7 := fun hy => by have := R.lt S7 _ hy; omega
  go_wp2_with fail
  generalize hW8 : World.alloc w7 _ = w8
  have L8 : Below w7.heap.size w7 w8 := by rw [← hW8]; exact ((Below.refl _ _).alloc (Nat.le_refl _) _)
  have rw8_0 : Row w8 w7.heap.size 33 [.slice A_x00 (x0).cells.length d_x00] := by rw [← hW8]; exact Row.new w7 _ _
  have rr8_0 := rr7_0.below L8
  have rr8_1 := rr7_1.below L8
  have rr8_2 := rr7_2.below L8
  have G8 : Below w.heap.size w w8 := G7.trans (L8.mono G7.size)
  have S8_w0 := S7_w0.below L8
  have F8_w0 := F7_w0.below (R.lt S7_w0) L8
  have S8_x0 := S7.below L8
  have F8_x0 := F7c.below (R.lt S7) L8
  have kc8_0 := rr8_0.cell
  have kc8_1 := rr8_1.cell
  have kc8_2 := rr8_2.cell
  have kc8_3 := rw8_0.cell
  clear rr7_0 rr7_1 rr7_2 G7 S7_w0 F7_w0 S7 F7c kc7_0 kj7_0 kc7_1 kj7_1 kc7_2 kj7_2 L8
  have hq8_0 := rr8_0.lt
  have hq8_1 := rr8_1.lt
  have hq8_2 := rr8_2.lt
  have hq8_3 := rw8_0.lt
  apply mid_FnExactApplyEdit_7 (Φ := fun bx A_g00 d_g00 w' => Below w8.heap.size w8 w' ∧ (∃ f, R w' (⟨(app x0.cells x1).1⟩ : GNb).toD f [.slice A_g00 ((⟨(app x0.cells x1).1⟩ : GNb)).cells.length d_g00] ∧ Free w' w8.heap.size f ∧ bx ∉ f) ∧ Row w' bx 33 [.slice A_g00 ((⟨(app x0.cells x1).1⟩ : GNb)).cells.length d_g00] ∧ w8.heap.size ≤ bx)
  · have tok4 : True := trivial
    have tok5 : True := trivial
    go_region_held3 (fun w' => w'.cell? ⟨w.heap.size + 1, 0, none⟩ = some (.int .i64 x1.kind) ∧ w'.cell? ⟨w.heap.size + 1, 1, none⟩ = some (.int .i64 x1.pos) ∧ w'.cell? ⟨w.heap.size + 1, 2, none⟩ = some (.int .i64 x1.cell.id) ∧ w'.cell? ⟨w.heap.size + 1, 3, none⟩ = some (.int .i64 x1.cell.ver) ∧ w'.cell? ⟨w.heap.size + 1, 4, none⟩ = some (.int .i64 x1.cell.kind) ∧ w'.cell? ⟨w.heap.size + 1, 5, none⟩ = some (.string x1.cell.name) ∧ w'.cell? ⟨w.heap.size + 1, 6, none⟩ = some (.string x1.cell.code) ∧ w'.cell? ⟨w.heap.size + 1, 7, none⟩ = some (.int .i64 x1.cell.n) ∧ w'.cell? ⟨w7.heap.size, 0, none⟩ = some (.slice A_x00 (x0).cells.length d_x00)) (first | go_keep | ((try dsimp only); (repeat' apply And.intro) <;> first | (rw [setCell_cell (by dsimp only; omega)]; simp only [*]; done) | (rw [setCell_cell (by dsimp only; omega)]; simp [*]; done)))
      (first
      | (go_at_call 10; have _t := tok4; refine Calls.mono ((fun (W : World) (hB : Below w8.heap.size w8 W) => (x1.toSaid _ _ _ (hx1.below (G8.trans (Below.mono hB G8.size))) hw1)) _ ?_) ?_; (focus (repeat' (first | exact Below.refl _ _ | exact Nat.le_refl _ | apply Below.drew | apply Below.alloc | (simp; done) | (simp; omega)))); rintro e w9 ⟨f9, cc9, rfl, S9, F9, hb9⟩; obtain ⟨hqf, rfl⟩ := GEdit.opened.1 S9; clear hqf; have hb9 := (Below.refl _ _).drew.trans hb9; (first | (have hq := rows1 (w := w8) hb9; obtain ⟨rb, hzb, C9⟩ := hq; clear hzb) | (have C9 : Below w8.heap.size w8 w9 := hb9)); have z9 := C9.size; have kc9_1 := (rr8_1.below C9).cell; have kj9_1 := fun o => ((rr8_1.below C9).below ((Below.refl w9.heap.size w9).alloc (Nat.le_refl _) o)).cell; have kc9_3 := (rw8_0.below C9).cell; have kj9_3 := fun o => ((rw8_0.below C9).below ((Below.refl w9.heap.size w9).alloc (Nat.le_refl _) o)).cell; (first | have krb9 := rb.cell | skip); (first | have ltb9 := rb.lt | skip); (first | have fzb9 := rb.frozen | skip); clear tok4)
      | (go_at_call 11; have _t := tok5; refine Calls.mono ((fun (W : World) (hB : Below w9.heap.size w9 W) => (apply_impl_law x0 x1 _ _ _ _ _ (S8_x0.below (C9.trans (Below.mono hB C9.size))) (S9.below hB) hn0 wx0.1 wx1)) _ ?_) ?_; (focus (repeat' (first | exact Below.refl _ _ | exact Nat.le_refl _ | apply Below.drew | apply Below.alloc | (simp; done) | (simp; omega)))); rintro e w10 ⟨f10_0, vv10_0, rfl, S10_0, F10_0, hb10⟩; obtain ⟨u_g00, g_g00, hqf, rfl, hU_g00⟩ := GNb.opened.1 S10_0; clear hqf; obtain ⟨A_g00, d_g00, rfl, hqa, hqb⟩ := hU_g00.formT; clear hqa hqb hU_g00; (first | (have hq := rows1 (w := w9) hb10; obtain ⟨rb, hzb, LL10⟩ := hq; clear hzb) | (have LL10 : Below w9.heap.size w9 w10 := hb10; (first | have rb := rb.below LL10 | skip))); have C10 := C9.trans (LL10.mono C9.size); have z10 := C10.size; have kc10_1 := (rr8_1.below C10).cell; have kj10_1 := fun o => ((rr8_1.below C10).below ((Below.refl w10.heap.size w10).alloc (Nat.le_refl _) o)).cell; have kc10_3 := (rw8_0.below C10).cell; have kj10_3 := fun o => ((rw8_0.below C10).below ((Below.refl w10.heap.size w10).alloc (Nat.le_refl _) o)).cell; (first | have krb10 := rb.cell | skip); (first | have ltb10 := rb.lt | skip); (first | have fzb10 := rb.frozen | skip); clear tok5))
    all_goals first
      | (obtain ⟨bx, hbx⟩ : ∃ b, b = w8.heap.size := ⟨_, rfl⟩; rw [← hbx]; refine ⟨rfl, bx, A_g00, d_g00, rfl, ?_⟩; subst hbx; have no_g0 : w8.heap.size ∉ f10_0 := fun hy => (by have h1 := (F10_0.2 _ hy).1; (try simp at h1); omega); exact ⟨(by repeat' (first | exact C10 | exact C10.size | apply Below.setCell | apply Below.alloc | (show _ ≤ _; dsimp only; omega))), ⟨_, (by repeat' (first | exact S10_0 | exact no_g0 | apply R.setCell)), (by repeat' (first | exact F10_0.mono (by first | omega | (simp; omega)) | exact no_g0 | apply Free.setCell)), no_g0⟩, (rb.set 0 _), (by first | omega | exact C10.size | exact Nat.le_refl _)⟩)
      | (obtain ⟨bx, hbx⟩ : ∃ b, b = w9.heap.size := ⟨_, rfl⟩; rw [← hbx]; refine ⟨rfl, bx, A_g00, d_g00, rfl, ?_⟩; subst hbx; have no_g0 : w9.heap.size ∉ f10_0 := fun hy => (by have h1 := (F10_0.2 _ hy).1; (try simp at h1); omega); exact ⟨(by repeat' (first | exact C10 | exact C10.size | apply Below.setCell | apply Below.alloc | (show _ ≤ _; dsimp only; omega))), ⟨_, (by repeat' (first | exact S10_0 | exact no_g0 | apply R.setCell)), (by repeat' (first | exact F10_0.mono (by first | omega | (simp; omega)) | exact no_g0 | apply Free.setCell)), no_g0⟩, (rb.set 0 _), (by first | omega | exact C10.size | exact Nat.le_refl _)⟩)
      | (obtain ⟨bx, hbx⟩ : ∃ b, b = w10.heap.size := ⟨_, rfl⟩; rw [← hbx]; refine ⟨rfl, bx, A_g00, d_g00, rfl, ?_⟩; subst hbx; exact ⟨(by repeat' (first | exact C10 | exact C10.size | apply Below.setCell | apply Below.alloc | (show _ ≤ _; dsimp only; omega))), ⟨_, dataLast S10_0, freeLast F10_0 S10_0 (by first | omega | (simp; omega)), notLast S10_0⟩, rowLast, (by first | omega | exact C10.size | exact Nat.le_refl _)⟩)
  rintro bx A_g00 d_g00 w11 ⟨L11, ⟨f11_g0, S11_g0, F11_g0, nx11_g0⟩, hrow11, hge11⟩
  obtain ⟨bx11, rfl⟩ : ∃ z, z = bx := ⟨_, rfl⟩
  have F11_g0b := F11_g0.mono (base' := w8.heap.size) (Nat.le_refl _)
  have D_w0_g0 : ∀ x ∈ f6_w0, x ∉ f11_g0 := fun x hx hy => Nat.lt_irrefl _ (Nat.lt_of_lt_of_le (R.lt S8_w0 x hx) ((F11_g0b.2 x hy).1))
  have D_x0_g0 : ∀ x ∈ f7, x ∉ f11_g0 := fun x hx hy => Nat.lt_irrefl _ (Nat.lt_of_lt_of_le (R.lt S8_x0 x hx) ((F11_g0b.2 x hy).1))
  have nb_0_g0 : w.heap.size ∉ f11_g0 := fun hy => Nat.lt_irrefl _ (Nat.lt_of_lt_of_le rr8_0.lt ((F11_g0b.2 _ hy).1))
  have nb_1_g0 : w.heap.size + 1 ∉ f11_g0 := fun hy => Nat.lt_irrefl _ (Nat.lt_of_lt_of_le rr8_1.lt ((F11_g0b.2 _ hy).1))
  have nb_2_g0 : bx6 ∉ f11_g0 := fun hy => Nat.lt_irrefl _ (Nat.lt_of_lt_of_le rr8_2.lt ((F11_g0b.2 _ hy).1))
  have nb_3_g0 : w7.heap.size ∉ f11_g0 := fun hy => Nat.lt_irrefl _ (Nat.lt_of_lt_of_le rw8_0.lt ((F11_g0b.2 _ hy).1))
  have F11_g0c := F11_g0b.mono (base' := w.heap.size) G8.size
  have rr11_0 := rr8_0.below L11
  have rr11_1 := rr8_1.below L11
  have rr11_2 := rr8_2.below L11
  have rr11_3 := rw8_0.below L11
  have nb_4_w0 : bx11 ∉ f6_w0 := fun hy => by have := R.lt S8_w0 _ hy; omega
  have nb_4_x0 : bx11 ∉ f7 := fun hy => by have := R.lt S8_x0 _ hy; omega
  have G11 : Below w.heap.size w w11 := G8.trans (L11.mono G8.size)
  have S11_w0 := S8_w0.below L11
  have F11_w0 := F8_w0.below (R.lt S8_w0) L11
  have S11_x0 := S8_x0.below L11
  have F11_x0 := F8_x0.below (R.lt S8_x0) L11
  have kc11_0 := rr11_0.cell
  have kc11_1 := rr11_1.cell
  have kc11_2 := rr11_2.cell
  have kc11_3 := rr11_3.cell
  have kc11_4 := hrow11.cell
  clear rr8_0 rr8_1 rr8_2 rw8_0 G8 S8_w0 F8_w0 S8_x0 F8_x0 kc8_0 kc8_1 kc8_2 kc8_3 L11
  go_wp2_with fail
  refine (GNb.eqSaid ((⟨(app x0.cells x1).1⟩ : GNb)) _ _ _ _ _ (S11_g0) (S11_w0)).mono ?_
  rintro e w12 ⟨rfl, hb12⟩
  have L12 : Below w11.heap.size w11 w12 := hb12
  have rr12_0 := rr11_0.below L12
  have rr12_1 := rr11_1.below L12
  have rr12_2 := rr11_2.below L12
  have rr12_3 := rr11_3.below L12
  have rr12_4 := hrow11.below L12
  have G12 : Below w.heap.size w w12 := G11.trans (L12.mono G11.size)
  have S12_w0 := S11_w0.below L12
  have F12_w0 := F11_w0.below (R.lt S11_w0) L12
  have S12_x0 := S11_x0.below L12
  have F12_x0 := F11_x0.below (R.lt S11_x0) L12
  have S12_g0 := S11_g0.below L12
  have F12_g0 := F11_g0c.below (R.lt S11_g0) L12
  have kc12_0 := rr12_0.cell
  have kc12_1 := rr12_1.cell
  have kc12_2 := rr12_2.cell
  have kc12_3 := rr12_3.cell
  have kc12_4 := rr12_4.cell
  clear rr11_0 rr11_1 rr11_2 rr11_3 hrow11 G11 S11_w0 F11_w0 S11_x0 F11_x0 S11_g0 F11_g0c kc11_0 kc11_1 kc11_2 kc11_3 kc11_4 L12 hb12
  go_wp2_with fail
  have tok6 : True := trivial
  have tok7 : True := trivial
  go_region_held3 (fun w' => w'.cell? ⟨w.heap.size, 0, none⟩ = some (.slice A0_0 x0.cells.length d0_0) ∧ w'.cell? ⟨w7.heap.size, 0, none⟩ = some (.slice A_x00 (x0).cells.length d_x00)) (go_keep)
    (first
    | (go_at_call 9; have _t := tok6; refine (x0.toSaid _ _ _ ((hx0.below G12).below (Below.refl _ _).drew) hw0).mono ?_; rintro e w13 ⟨f13, cc13, rfl, S13, F13, hb13⟩; obtain ⟨u_t50, g_t50, hqf, rfl, hU_t50⟩ := GNb.opened.1 S13; clear hqf; obtain ⟨A_t50, d_t50, rfl, hqa, hqb⟩ := hU_t50.formT; clear hqa hqb hU_t50; have hb13 := (Below.refl _ _).drew.trans hb13; have L13 : Below w12.heap.size w12 w13 := hb13; have rr13_0 := rr12_0.below L13; have rr13_1 := rr12_1.below L13; have rr13_2 := rr12_2.below L13; have rr13_3 := rr12_3.below L13; have rr13_4 := rr12_4.below L13; have F13b := F13.mono (base' := w12.heap.size) (Nat.le_refl _); have D_w0_t5 : ∀ x ∈ f6_w0, x ∉ f13 := fun x hx hy => Nat.lt_irrefl _ (Nat.lt_of_lt_of_le (R.lt S12_w0 x hx) ((F13b.2 x hy).1)); have D_x0_t5 : ∀ x ∈ f7, x ∉ f13 := fun x hx hy => Nat.lt_irrefl _ (Nat.lt_of_lt_of_le (R.lt S12_x0 x hx) ((F13b.2 x hy).1)); have D_g0_t5 : ∀ x ∈ f11_g0, x ∉ f13 := fun x hx hy => Nat.lt_irrefl _ (Nat.lt_of_lt_of_le (R.lt S12_g0 x hx) ((F13b.2 x hy).1)); have nb_0_t5 : w.heap.size ∉ f13 := fun hy => Nat.lt_irrefl _ (Nat.lt_of_lt_of_le rr12_0.lt ((F13b.2 _ hy).1)); have nb_1_t5 : w.heap.size + 1 ∉ f13 := fun hy => Nat.lt_irrefl _ (Nat.lt_of_lt_of_le rr12_1.lt ((F13b.2 _ hy).1)); have nb_2_t5 : bx6 ∉ f13 := fun hy => Nat.lt_irrefl _ (Nat.lt_of_lt_of_le rr12_2.lt ((F13b.2 _ hy).1)); have nb_3_t5 : w7.heap.size ∉ f13 := fun hy => Nat.lt_irrefl _ (Nat.lt_of_lt_of_le rr12_3.lt ((F13b.2 _ hy).1)); have nb_4_t5 : bx11 ∉ f13 := fun hy => Nat.lt_irrefl _ (Nat.lt_of_lt_of_le rr12_4.lt ((F13b.2 _ hy).1)); have G13 : Below w.heap.size w w13 := G12.trans (L13.mono G12.size); have F13c := F13b.mono (base' := w.heap.size) (G12.size); have S13_w0 := S12_w0.below L13; have F13_w0 := F12_w0.below (R.lt S12_w0) L13; have S13_x0 := S12_x0.below L13; have F13_x0 := F12_x0.below (R.lt S12_x0) L13; have S13_g0 := S12_g0.below L13; have F13_g0 := F12_g0.below (R.lt S12_g0) L13; have kc13_0 := rr13_0.cell; have kc13_1 := rr13_1.cell; have kc13_2 := rr13_2.cell; have kc13_3 := rr13_3.cell; have kc13_4 := rr13_4.cell; clear rr12_0 rr12_1 rr12_2 rr12_3 rr12_4 G12 F13 F13b S12_w0 F12_w0 S12_x0 F12_x0 S12_g0 F12_g0 kc12_0 kc12_1 kc12_2 kc12_3 kc12_4 L13 hb13; clear tok6)
    | (go_at_call 12; have _t := tok7; refine (GNb.eqSaid (x0) _ _ _ _ _ (S13_x0) (S13)).mono ?_; rintro e w14 ⟨rfl, hb14⟩; have L14 : Below w13.heap.size w13 w14 := hb14; have rr14_0 := rr13_0.below L14; have rr14_1 := rr13_1.below L14; have rr14_2 := rr13_2.below L14; have rr14_3 := rr13_3.below L14; have rr14_4 := rr13_4.below L14; have G14 : Below w.heap.size w w14 := G13.trans (L14.mono G13.size); have S14_w0 := S13_w0.below L14; have F14_w0 := F13_w0.below (R.lt S13_w0) L14; have S14_x0 := S13_x0.below L14; have F14_x0 := F13_x0.below (R.lt S13_x0) L14; have S14_g0 := S13_g0.below L14; have F14_g0 := F13_g0.below (R.lt S13_g0) L14; have kc14_0 := rr14_0.cell; have kc14_1 := rr14_1.cell; have kc14_2 := rr14_2.cell; have kc14_3 := rr14_3.cell; have kc14_4 := rr14_4.cell; clear rr13_0 rr13_1 rr13_2 rr13_3 rr13_4 G13 S13_w0 F13_w0 S13_x0 F13_x0 S13_g0 F13_g0 kc13_0 kc13_1 kc13_2 kc13_3 kc13_4 L14 hb14; clear tok7))
  go_wp2_with fail
  refine (GNb.mark (x0) _ _ _ _ (S14_x0) (F14_x0.mono (Nat.zero_le _)) (by omega) (by omega)).mono ?_
  rintro e w15 ⟨rfl, SM15, hb15⟩
  have rr15_0 := rr14_0.touch hb15 nb_0_x0
  have rr15_1 := rr14_1.touch hb15 nb_1_x0
  have rr15_2 := rr14_2.touch hb15 nb_2_x0
  have rr15_3 := rr14_3.touch hb15 nb_3_x0
  have rr15_4 := rr14_4.touch hb15 nb_4_x0
  have G15 : Below w.heap.size w w15 := Touch.toBelow G14 hb15 (fun x hx => (F14_x0.2 x hx).1) G14.size
  have S15_w0 := S14_w0.touch hb15 D_w0_x0
  have F15_w0 := F14_w0.touch (R.lt S14_w0) hb15
  have S15_g0 := S14_g0.touch hb15 (fun x hx hy => D_x0_g0 x hy hx)
  have F15_g0 := F14_g0.touch (R.lt S14_g0) hb15
  have F15_x0 := F14_x0.touch (R.lt S14_x0) hb15
  have kc15_0 := rr15_0.cell
  have kc15_1 := rr15_1.cell
  have kc15_2 := rr15_2.cell
  have kc15_3 := rr15_3.cell
  have kc15_4 := rr15_4.cell
  clear rr14_0 rr14_1 rr14_2 rr14_3 rr14_4 G14 S14_w0 F14_w0 S14_g0 F14_g0 S14_x0 F14_x0 kc14_0 kc14_1 kc14_2 kc14_3 kc14_4 hb15
  go_wp2_with fail
  refine (GNb.eqSaid ((⟨(app x0.cells x1).1⟩ : GNb)) _ _ _ _ _ (S15_g0) (S15_w0)).mono ?_
  rintro e w16 ⟨rfl, hb16⟩
  have L16 : Below w15.heap.size w15 w16 := hb16
  have rr16_0 := rr15_0.below L16
  have rr16_1 := rr15_1.below L16
  have rr16_2 := rr15_2.below L16
  have rr16_3 := rr15_3.below L16
  have rr16_4 := rr15_4.below L16
  have G16 : Below w.heap.size w w16 := G15.trans (L16.mono G15.size)
  have S16_w0 := S15_w0.below L16
  have F16_w0 := F15_w0.below (R.lt S15_w0) L16
  have S16_g0 := S15_g0.below L16
  have F16_g0 := F15_g0.below (R.lt S15_g0) L16
  have kc16_0 := rr16_0.cell
  have kc16_1 := rr16_1.cell
  have kc16_2 := rr16_2.cell
  have kc16_3 := rr16_3.cell
  have kc16_4 := rr16_4.cell
  clear rr15_0 rr15_1 rr15_2 rr15_3 rr15_4 G15 S15_w0 F15_w0 S15_g0 F15_g0 kc15_0 kc15_1 kc15_2 kc15_3 kc15_4 L16 hb16
  go_wp2_with fail
  refine (GNb.mark ((⟨(app x0.cells x1).1⟩ : GNb)) _ _ _ _ (S16_g0) (F16_g0.mono (Nat.zero_le _)) (by omega) (by omega)).mono ?_
  rintro e w17 ⟨rfl, SM17, hb17⟩
  have rr17_0 := rr16_0.touch hb17 nb_0_g0
  have rr17_1 := rr16_1.touch hb17 nb_1_g0
  have rr17_2 := rr16_2.touch hb17 nb_2_g0
  have rr17_3 := rr16_3.touch hb17 nb_3_g0
  have rr17_4 := rr16_4.touch hb17 nx11_g0
  have G17 : Below w.heap.size w w17 := Touch.toBelow G16 hb17 (fun x hx => (F16_g0.2 x hx).1) G16.size
  have S17_w0 := S16_w0.touch hb17 D_w0_g0
  have F17_w0 := F16_w0.touch (R.lt S16_w0) hb17
  have F17_g0 := F16_g0.touch (R.lt S16_g0) hb17
  have kc17_0 := rr17_0.cell
  have kc17_1 := rr17_1.cell
  have kc17_2 := rr17_2.cell
  have kc17_3 := rr17_3.cell
  have kc17_4 := rr17_4.cell
  clear rr16_0 rr16_1 rr16_2 rr16_3 rr16_4 G16 S16_w0 F16_w0 S16_g0 F16_g0 kc16_0 kc16_1 kc16_2 kc16_3 kc16_4 hb17
  go_wp2_with fail
  refine (GNb.held ((⟨(app x0.cells x1).1⟩ : GNb)) _ _ _ _ (SM17) (by omega) (by omega)).mono ?_
  rintro e w18 ⟨rfl, hb18⟩
  have L18 : Below w17.heap.size w17 w18 := hb18
  have rr18_0 := rr17_0.below L18
  have rr18_1 := rr17_1.below L18
  have rr18_2 := rr17_2.below L18
  have rr18_3 := rr17_3.below L18
  have rr18_4 := rr17_4.below L18
  have G18 : Below w.heap.size w w18 := G17.trans (L18.mono G17.size)
  have S18_w0 := S17_w0.below L18
  have F18_w0 := F17_w0.below (R.lt S17_w0) L18
  have S18_g0 := SM17.below L18
  have F18_g0 := F17_g0.below (R.lt SM17) L18
  have kc18_0 := rr18_0.cell
  have kc18_1 := rr18_1.cell
  have kc18_2 := rr18_2.cell
  have kc18_3 := rr18_3.cell
  have kc18_4 := rr18_4.cell
  clear rr17_0 rr17_1 rr17_2 rr17_3 rr17_4 G17 S17_w0 F17_w0 SM17 F17_g0 kc17_0 kc17_1 kc17_2 kc17_3 kc17_4 L18 hb18
  go_wp2_with fail
  have hq18_0 := rr18_0.lt
  have hq18_1 := rr18_1.lt
  have hq18_2 := rr18_2.lt
  have hq18_3 := rr18_3.lt
  have hq18_4 := rr18_4.lt
  apply mid_FnExactApplyEdit_19 (Φ := fun bx A_t60 d_t60 A_h00 d_h00 w' => Below w18.heap.size w18 w' ∧ (∃ f, R w' (⟨(app x0.cells x1).1⟩ : GNb).toD f [.slice A_h00 ((⟨(app x0.cells x1).1⟩ : GNb)).cells.length d_h00] ∧ Free w' w18.heap.size f ∧ bx ∉ f) ∧ Row w' bx 33 [.slice A_h00 ((⟨(app x0.cells x1).1⟩ : GNb)).cells.length d_h00] ∧ w18.heap.size ≤ bx)
  · have tok8 : True := trivial
    have tok9 : True := trivial
    have tok10 : True := trivial
    go_region_held3 (fun w' => w'.cell? ⟨w.heap.size, 0, none⟩ = some (.slice A0_0 x0.cells.length d0_0) ∧ w'.cell? ⟨w.heap.size + 1, 0, none⟩ = some (.int .i64 x1.kind) ∧ w'.cell? ⟨w.heap.size + 1, 1, none⟩ = some (.int .i64 x1.pos) ∧ w'.cell? ⟨w.heap.size + 1, 2, none⟩ = some (.int .i64 x1.cell.id) ∧ w'.cell? ⟨w.heap.size + 1, 3, none⟩ = some (.int .i64 x1.cell.ver) ∧ w'.cell? ⟨w.heap.size + 1, 4, none⟩ = some (.int .i64 x1.cell.kind) ∧ w'.cell? ⟨w.heap.size + 1, 5, none⟩ = some (.string x1.cell.name) ∧ w'.cell? ⟨w.heap.size + 1, 6, none⟩ = some (.string x1.cell.code) ∧ w'.cell? ⟨w.heap.size + 1, 7, none⟩ = some (.int .i64 x1.cell.n)) (first | go_keep | ((try dsimp only); (repeat' apply And.intro) <;> first | (rw [setCell_cell (by dsimp only; omega)]; simp only [*]; done) | (rw [setCell_cell (by dsimp only; omega)]; simp [*]; done)))
      (first
      | (go_at_call 9; have _t := tok8; refine Calls.mono ((fun (W : World) (hB : Below w18.heap.size w18 W) => (x0.toSaid _ _ _ (hx0.below (G18.trans (Below.mono hB G18.size))) hw0)) _ ?_) ?_; (focus (repeat' (first | exact Below.refl _ _ | exact Nat.le_refl _ | apply Below.drew | apply Below.alloc | (simp; done) | (simp; omega)))); rintro e w19 ⟨f19, cc19, rfl, S19, F19, hb19⟩; obtain ⟨u_t60, g_t60, hqf, rfl, hU_t60⟩ := GNb.opened.1 S19; clear hqf; obtain ⟨A_t60, d_t60, rfl, hqa, hqb⟩ := hU_t60.formT; clear hqa hqb hU_t60; have hb19 := (Below.refl _ _).drew.trans hb19; (first | (have hq := rows1 (w := w18) hb19; obtain ⟨rb, hzb, C19⟩ := hq; clear hzb) | (have C19 : Below w18.heap.size w18 w19 := hb19)); have z19 := C19.size; have kc19_0 := (rr18_0.below C19).cell; have kj19_0 := fun o => ((rr18_0.below C19).below ((Below.refl w19.heap.size w19).alloc (Nat.le_refl _) o)).cell; have kc19_1 := (rr18_1.below C19).cell; have kj19_1 := fun o => ((rr18_1.below C19).below ((Below.refl w19.heap.size w19).alloc (Nat.le_refl _) o)).cell; (first | have krb19 := rb.cell | skip); (first | have ltb19 := rb.lt | skip); (first | have fzb19 := rb.frozen | skip); clear tok8)
      | (go_at_call 10; have _t := tok9; refine Calls.mono ((fun (W : World) (hB : Below w19.heap.size w19 W) => (x1.toSaid _ _ _ (hx1.below (G18.trans (Below.mono (C19.trans (Below.mono hB C19.size)) G18.size))) hw1)) _ ?_) ?_; (focus (repeat' (first | exact Below.refl _ _ | exact Nat.le_refl _ | apply Below.drew | apply Below.alloc | (simp; done) | (simp; omega)))); rintro e w20 ⟨f20, cc20, rfl, S20, F20, hb20⟩; obtain ⟨hqf, rfl⟩ := GEdit.opened.1 S20; clear hqf; (first | (have hq := rows1 (w := w19) hb20; obtain ⟨rb, hzb, LL20⟩ := hq; clear hzb) | (have LL20 : Below w19.heap.size w19 w20 := hb20; (first | have rb := rb.below LL20 | skip))); have C20 := C19.trans (LL20.mono C19.size); have S20_o0 := S19.below LL20; have z20 := C20.size; have kc20_0 := (rr18_0.below C20).cell; have kj20_0 := fun o => ((rr18_0.below C20).below ((Below.refl w20.heap.size w20).alloc (Nat.le_refl _) o)).cell; have kc20_1 := (rr18_1.below C20).cell; have kj20_1 := fun o => ((rr18_1.below C20).below ((Below.refl w20.heap.size w20).alloc (Nat.le_refl _) o)).cell; (first | have krb20 := rb.cell | skip); (first | have ltb20 := rb.lt | skip); (first | have fzb20 := rb.frozen | skip); clear tok9)
      | (go_at_call 11; have _t := tok10; refine Calls.mono ((fun (W : World) (hB : Below w20.heap.size w20 W) => (apply_impl_law x0 x1 _ _ _ _ _ (S20_o0.below hB) (S20.below hB) hn0 wx0.1 wx1)) _ ?_) ?_; (focus (repeat' (first | exact Below.refl _ _ | exact Nat.le_refl _ | apply Below.drew | apply Below.alloc | (simp; done) | (simp; omega)))); rintro e w21 ⟨f21_0, vv21_0, rfl, S21_0, F21_0, hb21⟩; obtain ⟨u_h00, g_h00, hqf, rfl, hU_h00⟩ := GNb.opened.1 S21_0; clear hqf; obtain ⟨A_h00, d_h00, rfl, hqa, hqb⟩ := hU_h00.formT; clear hqa hqb hU_h00; (first | (have hq := rows1 (w := w20) hb21; obtain ⟨rb, hzb, LL21⟩ := hq; clear hzb) | (have LL21 : Below w20.heap.size w20 w21 := hb21; (first | have rb := rb.below LL21 | skip))); have C21 := C20.trans (LL21.mono C20.size); have z21 := C21.size; have kc21_0 := (rr18_0.below C21).cell; have kj21_0 := fun o => ((rr18_0.below C21).below ((Below.refl w21.heap.size w21).alloc (Nat.le_refl _) o)).cell; have kc21_1 := (rr18_1.below C21).cell; have kj21_1 := fun o => ((rr18_1.below C21).below ((Below.refl w21.heap.size w21).alloc (Nat.le_refl _) o)).cell; (first | have krb21 := rb.cell | skip); (first | have ltb21 := rb.lt | skip); (first | have fzb21 := rb.frozen | skip); clear tok10))
    all_goals first
      | (obtain ⟨bx, hbx⟩ : ∃ b, b = w18.heap.size := ⟨_, rfl⟩; rw [← hbx]; refine ⟨rfl, bx, A_t60, d_t60, A_h00, d_h00, rfl, ?_⟩; subst hbx; have no_h0 : w18.heap.size ∉ f21_0 := fun hy => (by have h1 := (F21_0.2 _ hy).1; (try simp at h1); omega); exact ⟨(by repeat' (first | exact C21 | exact C21.size | apply Below.setCell | apply Below.alloc | (show _ ≤ _; dsimp only; omega))), ⟨_, (by repeat' (first | exact S21_0 | exact no_h0 | apply R.setCell)), (by repeat' (first | exact F21_0.mono (by first | omega | (simp; omega)) | exact no_h0 | apply Free.setCell)), no_h0⟩, (rb.set 0 _), (by first | omega | exact C21.size | exact Nat.le_refl _)⟩)
      | (obtain ⟨bx, hbx⟩ : ∃ b, b = w19.heap.size := ⟨_, rfl⟩; rw [← hbx]; refine ⟨rfl, bx, A_t60, d_t60, A_h00, d_h00, rfl, ?_⟩; subst hbx; have no_h0 : w19.heap.size ∉ f21_0 := fun hy => (by have h1 := (F21_0.2 _ hy).1; (try simp at h1); omega); exact ⟨(by repeat' (first | exact C21 | exact C21.size | apply Below.setCell | apply Below.alloc | (show _ ≤ _; dsimp only; omega))), ⟨_, (by repeat' (first | exact S21_0 | exact no_h0 | apply R.setCell)), (by repeat' (first | exact F21_0.mono (by first | omega | (simp; omega)) | exact no_h0 | apply Free.setCell)), no_h0⟩, (rb.set 0 _), (by first | omega | exact C21.size | exact Nat.le_refl _)⟩)
      | (obtain ⟨bx, hbx⟩ : ∃ b, b = w20.heap.size := ⟨_, rfl⟩; rw [← hbx]; refine ⟨rfl, bx, A_t60, d_t60, A_h00, d_h00, rfl, ?_⟩; subst hbx; have no_h0 : w20.heap.size ∉ f21_0 := fun hy => (by have h1 := (F21_0.2 _ hy).1; (try simp at h1); omega); exact ⟨(by repeat' (first | exact C21 | exact C21.size | apply Below.setCell | apply Below.alloc | (show _ ≤ _; dsimp only; omega))), ⟨_, (by repeat' (first | exact S21_0 | exact no_h0 | apply R.setCell)), (by repeat' (first | exact F21_0.mono (by first | omega | (simp; omega)) | exact no_h0 | apply Free.setCell)), no_h0⟩, (rb.set 0 _), (by first | omega | exact C21.size | exact Nat.le_refl _)⟩)
      | (obtain ⟨bx, hbx⟩ : ∃ b, b = w21.heap.size := ⟨_, rfl⟩; rw [← hbx]; refine ⟨rfl, bx, A_t60, d_t60, A_h00, d_h00, rfl, ?_⟩; subst hbx; exact ⟨(by repeat' (first | exact C21 | exact C21.size | apply Below.setCell | apply Below.alloc | (show _ ≤ _; dsimp only; omega))), ⟨_, dataLast S21_0, freeLast F21_0 S21_0 (by first | omega | (simp; omega)), notLast S21_0⟩, rowLast, (by first | omega | exact C21.size | exact Nat.le_refl _)⟩)
  rintro bx A_t60 d_t60 A_h00 d_h00 w22 ⟨L22, ⟨f22_h0, S22_h0, F22_h0, nx22_h0⟩, hrow22, hge22⟩
  obtain ⟨bx22, rfl⟩ : ∃ z, z = bx := ⟨_, rfl⟩
  have F22_h0b := F22_h0.mono (base' := w18.heap.size) (Nat.le_refl _)
  have D_w0_h0 : ∀ x ∈ f6_w0, x ∉ f22_h0 := fun x hx hy => Nat.lt_irrefl _ (Nat.lt_of_lt_of_le (R.lt S18_w0 x hx) ((F22_h0b.2 x hy).1))
  have D_g0_h0 : ∀ x ∈ f11_g0, x ∉ f22_h0 := fun x hx hy => Nat.lt_irrefl _ (Nat.lt_of_lt_of_le (R.lt S18_g0 x hx) ((F22_h0b.2 x hy).1))
  have nb_0_h0 : w.heap.size ∉ f22_h0 := fun hy => Nat.lt_irrefl _ (Nat.lt_of_lt_of_le rr18_0.lt ((F22_h0b.2 _ hy).1))
  have nb_1_h0 : w.heap.size + 1 ∉ f22_h0 := fun hy => Nat.lt_irrefl _ (Nat.lt_of_lt_of_le rr18_1.lt ((F22_h0b.2 _ hy).1))
  have nb_2_h0 : bx6 ∉ f22_h0 := fun hy => Nat.lt_irrefl _ (Nat.lt_of_lt_of_le rr18_2.lt ((F22_h0b.2 _ hy).1))
  have nb_3_h0 : w7.heap.size ∉ f22_h0 := fun hy => Nat.lt_irrefl _ (Nat.lt_of_lt_of_le rr18_3.lt ((F22_h0b.2 _ hy).1))
  have nb_4_h0 : bx11 ∉ f22_h0 := fun hy => Nat.lt_irrefl _ (Nat.lt_of_lt_of_le rr18_4.lt ((F22_h0b.2 _ hy).1))
  have F22_h0c := F22_h0b.mono (base' := w.heap.size) G18.size
  have rr22_0 := rr18_0.below L22
  have rr22_1 := rr18_1.below L22
  have rr22_2 := rr18_2.below L22
  have rr22_3 := rr18_3.below L22
  have rr22_4 := rr18_4.below L22
  have nb_5_w0 : bx22 ∉ f6_w0 := fun hy => by have := R.lt S18_w0 _ hy; omega
  have nb_5_g0 : bx22 ∉ f11_g0 := fun hy => by have := R.lt S18_g0 _ hy; omega
  have G22 : Below w.heap.size w w22 := G18.trans (L22.mono G18.size)
  have S22_w0 := S18_w0.below L22
  have F22_w0 := F18_w0.below (R.lt S18_w0) L22
  have S22_g0 := S18_g0.below L22
  have F22_g0 := F18_g0.below (R.lt S18_g0) L22
  have kc22_0 := rr22_0.cell
  have kc22_1 := rr22_1.cell
  have kc22_2 := rr22_2.cell
  have kc22_3 := rr22_3.cell
  have kc22_4 := rr22_4.cell
  have kc22_5 := hrow22.cell
  clear rr18_0 rr18_1 rr18_2 rr18_3 rr18_4 G18 S18_w0 F18_w0 S18_g0 F18_g0 kc18_0 kc18_1 kc18_2 kc18_3 kc18_4 L22
  go_wp2_with fail
  refine (GNb.eqSaid ((⟨(app x0.cells x1).1⟩ : GNb)) _ _ _ _ _ (S22_h0) (S22_w0)).mono ?_
  rintro e w23 ⟨rfl, hb23⟩
  have L23 : Below w22.heap.size w22 w23 := hb23
  have rr23_0 := rr22_0.below L23
  have rr23_1 := rr22_1.below L23
  have rr23_2 := rr22_2.below L23
  have rr23_3 := rr22_3.below L23
  have rr23_4 := rr22_4.below L23
  have rr23_5 := hrow22.below L23
  have G23 : Below w.heap.size w w23 := G22.trans (L23.mono G22.size)
  have S23_w0 := S22_w0.below L23
  have F23_w0 := F22_w0.below (R.lt S22_w0) L23
  have S23_g0 := S22_g0.below L23
  have F23_g0 := F22_g0.below (R.lt S22_g0) L23
  have S23_h0 := S22_h0.below L23
  have F23_h0 := F22_h0c.below (R.lt S22_h0) L23
  have kc23_0 := rr23_0.cell
  have kc23_1 := rr23_1.cell
  have kc23_2 := rr23_2.cell
  have kc23_3 := rr23_3.cell
  have kc23_4 := rr23_4.cell
  have kc23_5 := rr23_5.cell
  clear rr22_0 rr22_1 rr22_2 rr22_3 rr22_4 hrow22 G22 S22_w0 F22_w0 S22_g0 F22_g0 S22_h0 F22_h0c kc22_0 kc22_1 kc22_2 kc22_3 kc22_4 kc22_5 L23 hb23
  go_wp2_with fail
  refine (GNb.held ((⟨(app x0.cells x1).1⟩ : GNb)) _ _ _ _ (S23_g0) (by omega) (by omega)).mono ?_
  rintro e w24 ⟨rfl, hb24⟩
  have L24 : Below w23.heap.size w23 w24 := hb24
  have rr24_0 := rr23_0.below L24
  have rr24_1 := rr23_1.below L24
  have rr24_2 := rr23_2.below L24
  have rr24_3 := rr23_3.below L24
  have rr24_4 := rr23_4.below L24
  have rr24_5 := rr23_5.below L24
  have G24 : Below w.heap.size w w24 := G23.trans (L24.mono G23.size)
  have S24_g0 := S23_g0.below L24
  have F24_g0 := F23_g0.below (R.lt S23_g0) L24
  have kc24_0 := rr24_0.cell
  have kc24_1 := rr24_1.cell
  have kc24_2 := rr24_2.cell
  have kc24_3 := rr24_3.cell
  have kc24_4 := rr24_4.cell
  have kc24_5 := rr24_5.cell
  clear rr23_0 rr23_1 rr23_2 rr23_3 rr23_4 rr23_5 G23 S23_g0 F23_g0 kc23_0 kc23_1 kc23_2 kc23_3 kc23_4 kc23_5 L24 hb24
  go_wp2_with fail
  go_ret
  exact ⟨rfl, G24⟩

open Go.ChangeShapes Go.WideShapes Go.ChangeAt
set_option maxRecDepth 100000 in
theorem lifted_FnExactApplyEdit (os : Os) (started : os.Started) (H : Type) (enc : TypeId × Value → H) :
    ReturnsInHanded {} Try.checked os 3 .any (Rows.fnExactApplyEditSpec.pre6 enc Try.prog Try.f3 Rows.fnExactApplyEditRow.domain false) (Rows.fnExactApplyEditSpec.post enc Try.prog Try.f3 false true false false) := by
  refine returnsInHanded_of_change (C := Try.checked) own_ started (by kernel_rfl) Try.func3
    (ChangeSpec.witness6 (enc := enc) (C := Try.checked) false ⟨#[], #[.agg #[.slice none 0 0], .agg #[.int .i64 0, .int .i64 0, .int .i64 0, .int .i64 0, .int .i64 0, .string .empty, .string .empty, .int .i64 0]], []⟩ 8 (by kernel_rfl) (by kernel_rfl) (by kernel_rfl) (by kernel_rfl)) ?_
  intro W base args ds gs before hval0 hW hcnd _
  have hval : ∀ (j : Nat) t v, Try.f3.params[j]? = some t → args[j]? = some v → Value.okWide Try.prog W .any base t v := hval0
  have hW' := hW
  obtain ⟨p, q, hA0, hV, rfl, hfz, hnd⟩ := hW
  have hA : DataW.TrodAll enc Try.prog W 0 (fun _ => true) true Try.f3.params.toList args.toList ds p := hA0
  rw [Try.params3] at hA hval
  obtain ⟨v0, vs0, d0, ds0, p0, q0, ha0, rfl, rfl, h0, r0⟩ := trodAll_cons hA
  obtain ⟨v1, vs1, d1, ds1, p1, q1, ha1, rfl, rfl, h1, r1⟩ := trodAll_cons r0
  obtain ⟨rfl, rfl, rfl⟩ := trodAll_nil r1
  subst ha1
  obtain rfl : args = #[v0, v1] := by cases args; simp_all
  obtain ⟨rfl, rfl⟩ := trodVars_none hV
  obtain ⟨x0, fx0, cx0, rfl, hx0, wx0⟩ := arg_struct Try.underlying24 (hval 0 24 v0 rfl rfl) (fun n => rd_GNb n) h0
  obtain ⟨x1, fx1, cx1, rfl, hx1, wx1⟩ := arg_struct Try.underlying28 (hval 1 28 v1 rfl rfl) (fun n => rd_GEdit n) h1
  clear hA0 hval0
  have hlt : ∀ z ∈ p0 ++ (p1 ++ []), z.block < W.heap.size := fun z hz => hW'.lt z (by simpa using hz)
  refine (law_FnExactApplyEdit x0 fx0 cx0 x1 fx1 cx1 W hx0 wx0 hx1 wx1).mono fun e W' ⟨he, hb⟩ => ?_
  subst he
  exact ⟨_, rfl, post_of_below (pa := p0 ++ (p1 ++ [])) (pv := []) hW' (fun _ _ _ => trodAll_mk1 (shut_bool Try.underlying4 _))
    (fun sp hsp => ⟨_, _, WideElems.Trod_stays laidOut_ (by kernel_rfl) (of_decide_eq_true (by kernel_rfl)) h0 (fun z hz => hb.same (hlt z (List.mem_append_left _ hz))) (fun z hz => hsp z (by simp [hz])), ⟨_, _, WideElems.Trod_stays laidOut_ (by kernel_rfl) (of_decide_eq_true (by kernel_rfl)) h1 (fun z hz => hb.same (hlt z (List.mem_append_right _ (List.mem_append_left _ hz)))) (fun z hz => hsp z (by simp [hz])), rfl, rfl⟩, rfl⟩) (fun _ _ => rfl) (by simp) hb (ok_one (by kernel_rfl) rfl (okWide_bool_mk Try.underlying4 _))⟩

theorem proved_FnExactApplyEdit : Rows.FnExactApplyEditSaid :=
  OpenClaim.holds_of_wide 3 Try.f3 rfl rfl rfl rfl rfl rfl rfl ⟨rfl, rfl, rfl, rfl, rfl⟩ rfl rfl rfl rfl rfl (by kernel_rfl) Try.func3 (by kernel_rfl)
    (of_decide_eq_true (by kernel_rfl)) (by unfold Func.isWrapper; first | (rw [if_pos (by decide +kernel)]; kernel_rfl) | (rw [if_neg (by decide +kernel)]; exact ⟨rfl, rfl⟩))
    (fun os started H enc _ => lifted_FnExactApplyEdit os started H enc)
end Go.Proofs.Ytokplliaejbbdaa
