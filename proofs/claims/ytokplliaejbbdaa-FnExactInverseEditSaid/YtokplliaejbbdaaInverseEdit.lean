/-
  The program's InverseEdit returns what the reference's returns, for all arguments. No condition.
-/
import Derived.Test.YtokplliaejbbdaaFin
import Derived.Test.YtokplliaejbbdaaSz
import Derived.Test.YtokplliaejbbdaaTo
import Derived.Test.YtokplliaejbbdaaEq
import Derived.Test.YtokplliaejbbdaaBox
import Derived.Test.YtokplliaejbbdaaEdit6
namespace Go.Proofs.Ytokplliaejbbdaa
open Go.RowKit
set_option linter.unusedSimpArgs false
set_option linter.unusedVariables false

theorem mid_FnExactInverseEdit_5 {P : Program} {code : Code} {Q : Exit → Act → World → Prop} {a : Act} {w : World} (F : Nat → Option Addr → Nat → Act) (Φ : Nat → Option Addr → Nat → World → Prop)
    (h : code.wp P (fun e a' w' => e = .normal ∧ ∃ bx A_t10 d_t10, a' = F bx A_t10 d_t10 ∧ Φ bx A_t10 d_t10 w') a w) (k : ∀ bx A_t10 d_t10 w', Φ bx A_t10 d_t10 w' → Q .normal (F bx A_t10 d_t10) w') : code.wp P Q a w :=
  Code.wp_mono (fun e a' w' ⟨he, bx, A_t10, d_t10, ha, hf⟩ => by
    subst he
    subst ha
    exact k _ _ _ w' hf) h
theorem mid_FnExactInverseEdit_7 {P : Program} {code : Code} {Q : Exit → Act → World → Prop} {a : Act} {w : World} (F : Nat → Act) (Φ : Nat → World → Prop)
    (h : code.wp P (fun e a' w' => e = .normal ∧ ∃ bx, a' = F bx ∧ Φ bx w') a w) (k : ∀ bx w', Φ bx w' → Q .normal (F bx) w') : code.wp P Q a w :=
  Code.wp_mono (fun e a' w' ⟨he, bx, ha, hf⟩ => by
    subst he
    subst ha
    exact k _ w' hf) h
set_option maxRecDepth 40000 in
set_option maxHeartbeats 8000000 in
theorem law_FnExactInverseEdit (x0 : GNb) (fx0 : List Nat) (cx0 : List Value) (x1 : GEdit) (fx1 : List Nat) (cx1 : List Value) (w : World) (hx0 : R w x0.toD fx0 cx0) (wx0 : x0.toD.wf) (hx1 : R w x1.toD fx1 cx1) (wx1 : x1.toD.wf) :
    Calls Try.prog 4 #[.agg cx0.toArray, .agg cx1.toArray] w (TruePost w) := by
  obtain ⟨u0_0, g0_0, rfl, rfl, hU0_0⟩ := GNb.opened.1 hx0
  obtain ⟨A0_0, d0_0, rfl, hqa, hqb⟩ := hU0_0.formT
  clear hqa hqb hU0_0
  obtain ⟨rfl, rfl⟩ := GEdit.opened.1 hx1
  go_enter Try.func4, Try.ntmps4
  go_wp2_with fail
  refine (x0.szSaid _ _ _ _ (hx0.below (((Below.refl _ _).alloc (Nat.le_refl _) _).alloc (by simp) _)) wx0 (by omega) (by omega)).mono ?_
  rintro e w1 ⟨r1, rfl, hr1, hqa, hqb, hb1⟩
  obtain ⟨rw1_0, rw1_1, hz1, L1⟩ := rows2 hb1
  have G1 : Below w.heap.size w w1 := L1
  have kc1_0 := rw1_0.cell
  have kc1_1 := rw1_1.cell
  clear L1 hb1 hz1
  go_wp2_with fail
  · go_ret
    exact ⟨rfl, G1⟩
  refine (x1.szSaid _ _ _ _ ((hx1.below G1)) wx1 (by omega) (by omega)).mono ?_
  rintro e w2 ⟨r2, rfl, hr2, hqa, hqb, hb2⟩
  have L2 : Below w1.heap.size w1 w2 := hb2
  have rr2_0 := rw1_0.below L2
  have rr2_1 := rw1_1.below L2
  have G2 : Below w.heap.size w w2 := G1.trans (L2.mono G1.size)
  have kc2_0 := rr2_0.cell
  have kc2_1 := rr2_1.cell
  clear rw1_0 rw1_1 G1 kc1_0 kc1_1 L2 hb2
  go_wp2_with fail
  · go_ret
    exact ⟨rfl, G2⟩
  have hw0 : x0.toD.wt ≤ 1048576 := by have := hr1.le (by omega); have := hr2.le (by omega); omega
  have hw1 : x1.toD.wt ≤ 1048576 := by have := hr1.le (by omega); have := hr2.le (by omega); omega
  have hn0 : x0.cells.length ≤ 1048576 := by have := hw0; simp [GNb.toD_eq, D.wt, D.wts] at this; omega
  clear hr1 hr2
  have hq2_0 := rr2_0.lt
  have hq2_1 := rr2_1.lt
  apply mid_FnExactInverseEdit_5 (Φ := fun bx A_t10 d_t10 w' => Below w2.heap.size w2 w' ∧ (∃ f, R w' ((inv x0.cells x1).1 : GEdit).toD f [.int .i64 (((inv x0.cells x1).1 : GEdit)).kind, .int .i64 (((inv x0.cells x1).1 : GEdit)).pos, .int .i64 (((inv x0.cells x1).1 : GEdit)).cell.id, .int .i64 (((inv x0.cells x1).1 : GEdit)).cell.ver, .int .i64 (((inv x0.cells x1).1 : GEdit)).cell.kind, .string (((inv x0.cells x1).1 : GEdit)).cell.name, .string (((inv x0.cells x1).1 : GEdit)).cell.code, .int .i64 (((inv x0.cells x1).1 : GEdit)).cell.n] ∧ FreeW w' w2.heap.size f ∧ bx ∉ f) ∧ Row w' bx 39 [.int .i64 (((inv x0.cells x1).1 : GEdit)).kind, .int .i64 (((inv x0.cells x1).1 : GEdit)).pos, .int .i64 (((inv x0.cells x1).1 : GEdit)).cell.id, .int .i64 (((inv x0.cells x1).1 : GEdit)).cell.ver, .int .i64 (((inv x0.cells x1).1 : GEdit)).cell.kind, .string (((inv x0.cells x1).1 : GEdit)).cell.name, .string (((inv x0.cells x1).1 : GEdit)).cell.code, .int .i64 (((inv x0.cells x1).1 : GEdit)).cell.n] ∧ w2.heap.size ≤ bx)
  · have tok1 : True := trivial
    have tok2 : True := trivial
    have tok3 : True := trivial
    go_region_held3 (fun w' => w'.cell? ⟨w.heap.size, 0, none⟩ = some (.slice A0_0 x0.cells.length d0_0) ∧ w'.cell? ⟨w.heap.size + 1, 0, none⟩ = some (.int .i64 x1.kind) ∧ w'.cell? ⟨w.heap.size + 1, 1, none⟩ = some (.int .i64 x1.pos) ∧ w'.cell? ⟨w.heap.size + 1, 2, none⟩ = some (.int .i64 x1.cell.id) ∧ w'.cell? ⟨w.heap.size + 1, 3, none⟩ = some (.int .i64 x1.cell.ver) ∧ w'.cell? ⟨w.heap.size + 1, 4, none⟩ = some (.int .i64 x1.cell.kind) ∧ w'.cell? ⟨w.heap.size + 1, 5, none⟩ = some (.string x1.cell.name) ∧ w'.cell? ⟨w.heap.size + 1, 6, none⟩ = some (.string x1.cell.code) ∧ w'.cell? ⟨w.heap.size + 1, 7, none⟩ = some (.int .i64 x1.cell.n)) (first | go_keep | ((try dsimp only); (repeat' apply And.intro) <;> first | ((repeat rw [setCell_cell (by dsimp only; omega)]); simp only [*]; done) | ((repeat rw [setCell_cell (by dsimp only; omega)]); simp [*]; done)))
      (first
      | (go_at_call 9; have _t := tok1; refine Calls.mono ((fun (W : World) (hB : Below w2.heap.size w2 W) => (x0.toSaid _ _ _ (hx0.below (G2.trans (Below.mono hB G2.size))) hw0)) _ ?_) ?_; (focus (repeat' (first | exact Below.refl _ _ | exact Nat.le_refl _ | apply Below.drew | apply Below.alloc | (simp; done) | (simp; omega)))); rintro e w3 ⟨f3, cc3, rfl, S3, F3, hb3⟩; obtain ⟨u_t10, g_t10, hqf, rfl, hU_t10⟩ := GNb.opened.1 S3; clear hqf; obtain ⟨A_t10, d_t10, rfl, hqa, hqb⟩ := hU_t10.formT; clear hqa hqb hU_t10; have hb3 := (Below.refl _ _).drew.trans hb3; (first | (have hq := rows1 (w := w2) hb3; obtain ⟨rb, hzb, C3⟩ := hq; clear hzb) | (have C3 : Below w2.heap.size w2 w3 := hb3)); have z3 := C3.size; have kc3_0 := (rr2_0.below C3).cell; have kj3_0 := fun o => ((rr2_0.below C3).below ((Below.refl w3.heap.size w3).alloc (Nat.le_refl _) o)).cell; have kc3_1 := (rr2_1.below C3).cell; have kj3_1 := fun o => ((rr2_1.below C3).below ((Below.refl w3.heap.size w3).alloc (Nat.le_refl _) o)).cell; (first | have krb3 := rb.cell | skip); (first | have ltb3 := rb.lt | skip); (first | have fzb3 := rb.frozen | skip); clear tok1)
      | (go_at_call 10; have _t := tok2; refine Calls.mono ((fun (W : World) (hB : Below w3.heap.size w3 W) => (x1.toSaid _ _ _ (hx1.below (G2.trans (Below.mono (C3.trans (Below.mono hB C3.size)) G2.size))) hw1)) _ ?_) ?_; (focus (repeat' (first | exact Below.refl _ _ | exact Nat.le_refl _ | apply Below.drew | apply Below.alloc | (simp; done) | (simp; omega)))); rintro e w4 ⟨f4, cc4, rfl, S4, F4, hb4⟩; obtain ⟨hqf, rfl⟩ := GEdit.opened.1 S4; clear hqf; (first | (have hq := rows1 (w := w3) hb4; obtain ⟨rb, hzb, LL4⟩ := hq; clear hzb) | (have LL4 : Below w3.heap.size w3 w4 := hb4; (first | have rb := rb.below LL4 | skip))); have C4 := C3.trans (LL4.mono C3.size); have S4_o0 := S3.below LL4; have z4 := C4.size; have kc4_0 := (rr2_0.below C4).cell; have kj4_0 := fun o => ((rr2_0.below C4).below ((Below.refl w4.heap.size w4).alloc (Nat.le_refl _) o)).cell; have kc4_1 := (rr2_1.below C4).cell; have kj4_1 := fun o => ((rr2_1.below C4).below ((Below.refl w4.heap.size w4).alloc (Nat.le_refl _) o)).cell; (first | have krb4 := rb.cell | skip); (first | have ltb4 := rb.lt | skip); (first | have fzb4 := rb.frozen | skip); clear tok2)
      | (go_at_call 15; have _t := tok3; refine Calls.mono ((fun (W : World) (hB : Below w4.heap.size w4 W) => (inverse_spec_law x0 x1 _ _ _ _ _ (S4_o0.below hB) (S4.below hB) hn0 wx0.1 wx1)) _ ?_) ?_; (focus (repeat' (first | exact Below.refl _ _ | exact Nat.le_refl _ | apply Below.drew | apply Below.alloc | (simp; done) | (simp; omega)))); rintro e w5 ⟨f5_0, vv5_0, rfl, S5_0, F5_0, hb5⟩; obtain ⟨hqf, rfl⟩ := GEdit.opened.1 S5_0; clear hqf; (first | (have hq := rows1 (w := w4) hb5; obtain ⟨rb, hzb, LL5⟩ := hq; clear hzb) | (have LL5 : Below w4.heap.size w4 w5 := hb5; (first | have rb := rb.below LL5 | skip))); have C5 := C4.trans (LL5.mono C4.size); have z5 := C5.size; have kc5_0 := (rr2_0.below C5).cell; have kj5_0 := fun o => ((rr2_0.below C5).below ((Below.refl w5.heap.size w5).alloc (Nat.le_refl _) o)).cell; have kc5_1 := (rr2_1.below C5).cell; have kj5_1 := fun o => ((rr2_1.below C5).below ((Below.refl w5.heap.size w5).alloc (Nat.le_refl _) o)).cell; (first | have krb5 := rb.cell | skip); (first | have ltb5 := rb.lt | skip); (first | have fzb5 := rb.frozen | skip); clear tok3))
    all_goals first
      | (obtain ⟨bx, hbx⟩ : ∃ b, b = w2.heap.size := ⟨_, rfl⟩; rw [← hbx]; refine ⟨rfl, bx, A_t10, d_t10, rfl, ?_⟩; subst hbx; have no_w0 : w2.heap.size ∉ f5_0 := fun hy => (by have h1 := (F5_0.2 _ hy).1; (try simp at h1); omega); have qr0 := rb.set 0 (.int .i64 (((inv x0.cells x1).1 : GEdit)).kind); have qr1 := qr0.set 1 (.int .i64 (((inv x0.cells x1).1 : GEdit)).pos); have qr2 := qr1.set 2 (.int .i64 (((inv x0.cells x1).1 : GEdit)).cell.id); have qr3 := qr2.set 3 (.int .i64 (((inv x0.cells x1).1 : GEdit)).cell.ver); have qr4 := qr3.set 4 (.int .i64 (((inv x0.cells x1).1 : GEdit)).cell.kind); have qr5 := qr4.set 5 (.string (((inv x0.cells x1).1 : GEdit)).cell.name); have qr6 := qr5.set 6 (.string (((inv x0.cells x1).1 : GEdit)).cell.code); have qr7 := qr6.set 7 (.int .i64 (((inv x0.cells x1).1 : GEdit)).cell.n); simp only [List.set_cons_zero, List.set_cons_succ] at qr7; exact ⟨(by repeat' (first | (with_reducible exact C5) | (with_reducible exact C5.size) | (with_reducible apply Below.setCell) | (with_reducible apply Below.alloc) | (show _ ≤ _; dsimp only; omega))), ⟨_, (by repeat' (first | (with_reducible exact S5_0) | (with_reducible exact no_w0) | (with_reducible apply R.setCell))), freeWany F5_0 (by first | omega | (simp; omega)), no_w0⟩, qr7, (by first | omega | exact C5.size | exact Nat.le_refl _)⟩)
      | (obtain ⟨bx, hbx⟩ : ∃ b, b = w3.heap.size := ⟨_, rfl⟩; rw [← hbx]; refine ⟨rfl, bx, A_t10, d_t10, rfl, ?_⟩; subst hbx; have no_w0 : w3.heap.size ∉ f5_0 := fun hy => (by have h1 := (F5_0.2 _ hy).1; (try simp at h1); omega); have qr0 := rb.set 0 (.int .i64 (((inv x0.cells x1).1 : GEdit)).kind); have qr1 := qr0.set 1 (.int .i64 (((inv x0.cells x1).1 : GEdit)).pos); have qr2 := qr1.set 2 (.int .i64 (((inv x0.cells x1).1 : GEdit)).cell.id); have qr3 := qr2.set 3 (.int .i64 (((inv x0.cells x1).1 : GEdit)).cell.ver); have qr4 := qr3.set 4 (.int .i64 (((inv x0.cells x1).1 : GEdit)).cell.kind); have qr5 := qr4.set 5 (.string (((inv x0.cells x1).1 : GEdit)).cell.name); have qr6 := qr5.set 6 (.string (((inv x0.cells x1).1 : GEdit)).cell.code); have qr7 := qr6.set 7 (.int .i64 (((inv x0.cells x1).1 : GEdit)).cell.n); simp only [List.set_cons_zero, List.set_cons_succ] at qr7; exact ⟨(by repeat' (first | (with_reducible exact C5) | (with_reducible exact C5.size) | (with_reducible apply Below.setCell) | (with_reducible apply Below.alloc) | (show _ ≤ _; dsimp only; omega))), ⟨_, (by repeat' (first | (with_reducible exact S5_0) | (with_reducible exact no_w0) | (with_reducible apply R.setCell))), freeWany F5_0 (by first | omega | (simp; omega)), no_w0⟩, qr7, (by first | omega | exact C5.size | exact Nat.le_refl _)⟩)
      | (obtain ⟨bx, hbx⟩ : ∃ b, b = w4.heap.size := ⟨_, rfl⟩; rw [← hbx]; refine ⟨rfl, bx, A_t10, d_t10, rfl, ?_⟩; subst hbx; have no_w0 : w4.heap.size ∉ f5_0 := fun hy => (by have h1 := (F5_0.2 _ hy).1; (try simp at h1); omega); have qr0 := rb.set 0 (.int .i64 (((inv x0.cells x1).1 : GEdit)).kind); have qr1 := qr0.set 1 (.int .i64 (((inv x0.cells x1).1 : GEdit)).pos); have qr2 := qr1.set 2 (.int .i64 (((inv x0.cells x1).1 : GEdit)).cell.id); have qr3 := qr2.set 3 (.int .i64 (((inv x0.cells x1).1 : GEdit)).cell.ver); have qr4 := qr3.set 4 (.int .i64 (((inv x0.cells x1).1 : GEdit)).cell.kind); have qr5 := qr4.set 5 (.string (((inv x0.cells x1).1 : GEdit)).cell.name); have qr6 := qr5.set 6 (.string (((inv x0.cells x1).1 : GEdit)).cell.code); have qr7 := qr6.set 7 (.int .i64 (((inv x0.cells x1).1 : GEdit)).cell.n); simp only [List.set_cons_zero, List.set_cons_succ] at qr7; exact ⟨(by repeat' (first | (with_reducible exact C5) | (with_reducible exact C5.size) | (with_reducible apply Below.setCell) | (with_reducible apply Below.alloc) | (show _ ≤ _; dsimp only; omega))), ⟨_, (by repeat' (first | (with_reducible exact S5_0) | (with_reducible exact no_w0) | (with_reducible apply R.setCell))), freeWany F5_0 (by first | omega | (simp; omega)), no_w0⟩, qr7, (by first | omega | exact C5.size | exact Nat.le_refl _)⟩)
      | (obtain ⟨bx, hbx⟩ : ∃ b, b = w5.heap.size := ⟨_, rfl⟩; rw [← hbx]; refine ⟨rfl, bx, A_t10, d_t10, rfl, ?_⟩; subst hbx; exact ⟨(by repeat' (first | (with_reducible exact C5) | (with_reducible exact C5.size) | (with_reducible apply Below.setCell) | (with_reducible apply Below.alloc) | (show _ ≤ _; dsimp only; omega))), ⟨_, dataLast S5_0, freeWany F5_0 (by first | omega | (simp; omega)), notLast S5_0⟩, rowLast, (by first | omega | exact C5.size | exact Nat.le_refl _)⟩)
  rintro bx A_t10 d_t10 w6 ⟨L6, ⟨f6_w0, S6_w0, F6_w0, nx6_w0⟩, hrow6, hge6⟩
  obtain ⟨bx6, rfl⟩ : ∃ z, z = bx := ⟨_, rfl⟩
  have F6_w0b := F6_w0.mono (base' := w2.heap.size) (Nat.le_refl _)
  have F6_w0c := F6_w0b.mono (base' := w.heap.size) G2.size
  have rr6_0 := rr2_0.below L6
  have rr6_1 := rr2_1.below L6
  have G6 : Below w.heap.size w w6 := G2.trans (L6.mono G2.size)
  have kc6_0 := rr6_0.cell
  have kc6_1 := rr6_1.cell
  have kc6_2 := hrow6.cell
  clear rr2_0 rr2_1 G2 kc2_0 kc2_1 L6
  go_wp2_with fail
  refine (x0.toSaid _ _ _ ((hx0.below G6)) hw0).mono ?_
  rintro e w7 ⟨f7, cc7, rfl, S7, F7, hb7⟩
  obtain ⟨u_x00, g_x00, hqf, rfl, hU_x00⟩ := GNb.opened.1 S7
  clear hqf
  obtain ⟨A_x00, d_x00, rfl, hqa, hqb⟩ := hU_x00.formT
  clear hqa hqb hU_x00
  have L7 : Below w6.heap.size w6 w7 := hb7
  have rr7_0 := rr6_0.below L7
  have rr7_1 := rr6_1.below L7
  have rr7_2 := hrow6.below L7
  have F7b := F7.mono (base' := w6.heap.size) (Nat.le_refl _)
  have G7 : Below w.heap.size w w7 := G6.trans (L7.mono G6.size)
  have F7c := F7b.mono (base' := w.heap.size) (G6.size)
  have S7_w0 := S6_w0.below L7
  have F7_w0 := F6_w0c.below (R.lt S6_w0) L7
  have kc7_0 := rr7_0.cell
  have kj7_0 := fun o => (rr7_0.below ((Below.refl w7.heap.size w7).alloc (Nat.le_refl _) o)).cell
  have kc7_1 := rr7_1.cell
  have kj7_1 := fun o => (rr7_1.below ((Below.refl w7.heap.size w7).alloc (Nat.le_refl _) o)).cell
  have kc7_2 := rr7_2.cell
  have kj7_2 := fun o => (rr7_2.below ((Below.refl w7.heap.size w7).alloc (Nat.le_refl _) o)).cell
  clear rr6_0 rr6_1 hrow6 G6 F7 F7b S6_w0 F6_w0c kc6_0 kc6_1 kc6_2 L7 hb7
  go_wp2_with fail
  generalize hW8 : World.alloc w7 _ = w8
  have L8 : Below w7.heap.size w7 w8 := by rw [← hW8]; exact ((Below.refl _ _).alloc (Nat.le_refl _) _)
  have rw8_0 : Row w8 w7.heap.size 33 [.slice A_x00 (x0).cells.length d_x00] := by rw [← hW8]; exact Row.new w7 _ _
  have rr8_0 := rr7_0.below L8
  have rr8_1 := rr7_1.below L8
  have rr8_2 := rr7_2.below L8
  have nb_3_w0 : w7.heap.size ∉ f6_w0 := fun hy => by have := R.lt S7_w0 _ hy; omega
  have nb_3_x0 : w7.heap.size ∉ f7 := fun hy => by have := R.lt S7 _ hy; omega
  have G8 : Below w.heap.size w w8 := G7.trans (L8.mono G7.size)
  have S8_w0 := S7_w0.below L8
  have F8_w0 := F7_w0.below (R.lt S7_w0) L8
  have S8_x0 := S7.below L8
  have F8_x0 := F7c.below (R.lt S7) L8
  have kc8_0 := rr8_0.cell
  have kc8_1 := rr8_1.cell
  have kc8_2 := rr8_2.cell
  have kc8_3 := rw8_0.cell
  clear rr7_0 rr7_1 rr7_2 G7 S7_w0 F7_w0 S7 F7c kc7_0 kj7_0 kc7_1 kj7_1 kc7_2 kj7_2 L8
  have hq8_0 := rr8_0.lt
  have hq8_1 := rr8_1.lt
  have hq8_2 := rr8_2.lt
  have hq8_3 := rw8_0.lt
  apply mid_FnExactInverseEdit_7 (Φ := fun bx w' => Below w8.heap.size w8 w' ∧ (∃ f, R w' ((inv x0.cells x1).1 : GEdit).toD f [.int .i64 (((inv x0.cells x1).1 : GEdit)).kind, .int .i64 (((inv x0.cells x1).1 : GEdit)).pos, .int .i64 (((inv x0.cells x1).1 : GEdit)).cell.id, .int .i64 (((inv x0.cells x1).1 : GEdit)).cell.ver, .int .i64 (((inv x0.cells x1).1 : GEdit)).cell.kind, .string (((inv x0.cells x1).1 : GEdit)).cell.name, .string (((inv x0.cells x1).1 : GEdit)).cell.code, .int .i64 (((inv x0.cells x1).1 : GEdit)).cell.n] ∧ FreeW w' w8.heap.size f ∧ bx ∉ f) ∧ Row w' bx 39 [.int .i64 (((inv x0.cells x1).1 : GEdit)).kind, .int .i64 (((inv x0.cells x1).1 : GEdit)).pos, .int .i64 (((inv x0.cells x1).1 : GEdit)).cell.id, .int .i64 (((inv x0.cells x1).1 : GEdit)).cell.ver, .int .i64 (((inv x0.cells x1).1 : GEdit)).cell.kind, .string (((inv x0.cells x1).1 : GEdit)).cell.name, .string (((inv x0.cells x1).1 : GEdit)).cell.code, .int .i64 (((inv x0.cells x1).1 : GEdit)).cell.n] ∧ w8.heap.size ≤ bx)
  · have tok4 : True := trivial
    have tok5 : True := trivial
    go_region_held3 (fun w' => w'.cell? ⟨w.heap.size + 1, 0, none⟩ = some (.int .i64 x1.kind) ∧ w'.cell? ⟨w.heap.size + 1, 1, none⟩ = some (.int .i64 x1.pos) ∧ w'.cell? ⟨w.heap.size + 1, 2, none⟩ = some (.int .i64 x1.cell.id) ∧ w'.cell? ⟨w.heap.size + 1, 3, none⟩ = some (.int .i64 x1.cell.ver) ∧ w'.cell? ⟨w.heap.size + 1, 4, none⟩ = some (.int .i64 x1.cell.kind) ∧ w'.cell? ⟨w.heap.size + 1, 5, none⟩ = some (.string x1.cell.name) ∧ w'.cell? ⟨w.heap.size + 1, 6, none⟩ = some (.string x1.cell.code) ∧ w'.cell? ⟨w.heap.size + 1, 7, none⟩ = some (.int .i64 x1.cell.n) ∧ w'.cell? ⟨w7.heap.size, 0, none⟩ = some (.slice A_x00 (x0).cells.length d_x00)) (first | go_keep | ((try dsimp only); (repeat' apply And.intro) <;> first | ((repeat rw [setCell_cell (by dsimp only; omega)]); simp only [*]; done) | ((repeat rw [setCell_cell (by dsimp only; omega)]); simp [*]; done)))
      (first
      | (go_at_call 10; have _t := tok4; refine Calls.mono ((fun (W : World) (hB : Below w8.heap.size w8 W) => (x1.toSaid _ _ _ (hx1.below (G8.trans (Below.mono hB G8.size))) hw1)) _ ?_) ?_; (focus (repeat' (first | exact Below.refl _ _ | exact Nat.le_refl _ | apply Below.drew | apply Below.alloc | (simp; done) | (simp; omega)))); rintro e w9 ⟨f9, cc9, rfl, S9, F9, hb9⟩; obtain ⟨hqf, rfl⟩ := GEdit.opened.1 S9; clear hqf; have hb9 := (Below.refl _ _).drew.trans hb9; (first | (have hq := rows1 (w := w8) hb9; obtain ⟨rb, hzb, C9⟩ := hq; clear hzb) | (have C9 : Below w8.heap.size w8 w9 := hb9)); have z9 := C9.size; have kc9_1 := (rr8_1.below C9).cell; have kj9_1 := fun o => ((rr8_1.below C9).below ((Below.refl w9.heap.size w9).alloc (Nat.le_refl _) o)).cell; have kc9_3 := (rw8_0.below C9).cell; have kj9_3 := fun o => ((rw8_0.below C9).below ((Below.refl w9.heap.size w9).alloc (Nat.le_refl _) o)).cell; (first | have krb9 := rb.cell | skip); (first | have ltb9 := rb.lt | skip); (first | have fzb9 := rb.frozen | skip); clear tok4)
      | (go_at_call 16; have _t := tok5; refine Calls.mono ((fun (W : World) (hB : Below w9.heap.size w9 W) => (inverse_impl_law x0 x1 _ _ _ _ _ (S8_x0.below (C9.trans (Below.mono hB C9.size))) (S9.below hB) hn0 wx0.1 wx1)) _ ?_) ?_; (focus (repeat' (first | exact Below.refl _ _ | exact Nat.le_refl _ | apply Below.drew | apply Below.alloc | (simp; done) | (simp; omega)))); rintro e w10 ⟨f10_0, vv10_0, rfl, S10_0, F10_0, hb10⟩; obtain ⟨hqf, rfl⟩ := GEdit.opened.1 S10_0; clear hqf; (first | (have hq := rows1 (w := w9) hb10; obtain ⟨rb, hzb, LL10⟩ := hq; clear hzb) | (have LL10 : Below w9.heap.size w9 w10 := hb10; (first | have rb := rb.below LL10 | skip))); have C10 := C9.trans (LL10.mono C9.size); have z10 := C10.size; have kc10_1 := (rr8_1.below C10).cell; have kj10_1 := fun o => ((rr8_1.below C10).below ((Below.refl w10.heap.size w10).alloc (Nat.le_refl _) o)).cell; have kc10_3 := (rw8_0.below C10).cell; have kj10_3 := fun o => ((rw8_0.below C10).below ((Below.refl w10.heap.size w10).alloc (Nat.le_refl _) o)).cell; (first | have krb10 := rb.cell | skip); (first | have ltb10 := rb.lt | skip); (first | have fzb10 := rb.frozen | skip); clear tok5))
    all_goals first
      | (obtain ⟨bx, hbx⟩ : ∃ b, b = w8.heap.size := ⟨_, rfl⟩; rw [← hbx]; refine ⟨rfl, bx, rfl, ?_⟩; subst hbx; have no_g0 : w8.heap.size ∉ f10_0 := fun hy => (by have h1 := (F10_0.2 _ hy).1; (try simp at h1); omega); have qr0 := rb.set 0 (.int .i64 (((inv x0.cells x1).1 : GEdit)).kind); have qr1 := qr0.set 1 (.int .i64 (((inv x0.cells x1).1 : GEdit)).pos); have qr2 := qr1.set 2 (.int .i64 (((inv x0.cells x1).1 : GEdit)).cell.id); have qr3 := qr2.set 3 (.int .i64 (((inv x0.cells x1).1 : GEdit)).cell.ver); have qr4 := qr3.set 4 (.int .i64 (((inv x0.cells x1).1 : GEdit)).cell.kind); have qr5 := qr4.set 5 (.string (((inv x0.cells x1).1 : GEdit)).cell.name); have qr6 := qr5.set 6 (.string (((inv x0.cells x1).1 : GEdit)).cell.code); have qr7 := qr6.set 7 (.int .i64 (((inv x0.cells x1).1 : GEdit)).cell.n); simp only [List.set_cons_zero, List.set_cons_succ] at qr7; exact ⟨(by repeat' (first | (with_reducible exact C10) | (with_reducible exact C10.size) | (with_reducible apply Below.setCell) | (with_reducible apply Below.alloc) | (show _ ≤ _; dsimp only; omega))), ⟨_, (by repeat' (first | (with_reducible exact S10_0) | (with_reducible exact no_g0) | (with_reducible apply R.setCell))), freeWany F10_0 (by first | omega | (simp; omega)), no_g0⟩, qr7, (by first | omega | exact C10.size | exact Nat.le_refl _)⟩)
      | (obtain ⟨bx, hbx⟩ : ∃ b, b = w9.heap.size := ⟨_, rfl⟩; rw [← hbx]; refine ⟨rfl, bx, rfl, ?_⟩; subst hbx; have no_g0 : w9.heap.size ∉ f10_0 := fun hy => (by have h1 := (F10_0.2 _ hy).1; (try simp at h1); omega); have qr0 := rb.set 0 (.int .i64 (((inv x0.cells x1).1 : GEdit)).kind); have qr1 := qr0.set 1 (.int .i64 (((inv x0.cells x1).1 : GEdit)).pos); have qr2 := qr1.set 2 (.int .i64 (((inv x0.cells x1).1 : GEdit)).cell.id); have qr3 := qr2.set 3 (.int .i64 (((inv x0.cells x1).1 : GEdit)).cell.ver); have qr4 := qr3.set 4 (.int .i64 (((inv x0.cells x1).1 : GEdit)).cell.kind); have qr5 := qr4.set 5 (.string (((inv x0.cells x1).1 : GEdit)).cell.name); have qr6 := qr5.set 6 (.string (((inv x0.cells x1).1 : GEdit)).cell.code); have qr7 := qr6.set 7 (.int .i64 (((inv x0.cells x1).1 : GEdit)).cell.n); simp only [List.set_cons_zero, List.set_cons_succ] at qr7; exact ⟨(by repeat' (first | (with_reducible exact C10) | (with_reducible exact C10.size) | (with_reducible apply Below.setCell) | (with_reducible apply Below.alloc) | (show _ ≤ _; dsimp only; omega))), ⟨_, (by repeat' (first | (with_reducible exact S10_0) | (with_reducible exact no_g0) | (with_reducible apply R.setCell))), freeWany F10_0 (by first | omega | (simp; omega)), no_g0⟩, qr7, (by first | omega | exact C10.size | exact Nat.le_refl _)⟩)
      | (obtain ⟨bx, hbx⟩ : ∃ b, b = w10.heap.size := ⟨_, rfl⟩; rw [← hbx]; refine ⟨rfl, bx, rfl, ?_⟩; subst hbx; exact ⟨(by repeat' (first | (with_reducible exact C10) | (with_reducible exact C10.size) | (with_reducible apply Below.setCell) | (with_reducible apply Below.alloc) | (show _ ≤ _; dsimp only; omega))), ⟨_, dataLast S10_0, freeWany F10_0 (by first | omega | (simp; omega)), notLast S10_0⟩, rowLast, (by first | omega | exact C10.size | exact Nat.le_refl _)⟩)
  rintro bx w11 ⟨L11, ⟨f11_g0, S11_g0, F11_g0, nx11_g0⟩, hrow11, hge11⟩
  obtain ⟨bx11, rfl⟩ : ∃ z, z = bx := ⟨_, rfl⟩
  have F11_g0b := F11_g0.mono (base' := w8.heap.size) (Nat.le_refl _)
  have F11_g0c := F11_g0b.mono (base' := w.heap.size) G8.size
  have rr11_0 := rr8_0.below L11
  have rr11_1 := rr8_1.below L11
  have rr11_2 := rr8_2.below L11
  have rr11_3 := rw8_0.below L11
  have nb_4_w0 : bx11 ∉ f6_w0 := fun hy => by have := R.lt S8_w0 _ hy; omega
  have nb_4_x0 : bx11 ∉ f7 := fun hy => by have := R.lt S8_x0 _ hy; omega
  have G11 : Below w.heap.size w w11 := G8.trans (L11.mono G8.size)
  have S11_w0 := S8_w0.below L11
  have F11_w0 := F8_w0.below (R.lt S8_w0) L11
  have S11_x0 := S8_x0.below L11
  have F11_x0 := F8_x0.below (R.lt S8_x0) L11
  have kc11_0 := rr11_0.cell
  have kc11_1 := rr11_1.cell
  have kc11_2 := rr11_2.cell
  have kc11_3 := rr11_3.cell
  have kc11_4 := hrow11.cell
  clear rr8_0 rr8_1 rr8_2 rw8_0 G8 S8_w0 F8_w0 S8_x0 F8_x0 kc8_0 kc8_1 kc8_2 kc8_3 L11
  go_wp2_with fail
  refine (GEdit.eqSaid (((inv x0.cells x1).1 : GEdit)) _ _ _ _ _ (S11_g0) (S11_w0)).mono ?_
  rintro e w12 ⟨rfl, hb12⟩
  have L12 : Below w11.heap.size w11 w12 := hb12
  have rr12_0 := rr11_0.below L12
  have rr12_1 := rr11_1.below L12
  have rr12_2 := rr11_2.below L12
  have rr12_3 := rr11_3.below L12
  have rr12_4 := hrow11.below L12
  have G12 : Below w.heap.size w w12 := G11.trans (L12.mono G11.size)
  have S12_w0 := S11_w0.below L12
  have F12_w0 := F11_w0.below (R.lt S11_w0) L12
  have S12_x0 := S11_x0.below L12
  have F12_x0 := F11_x0.below (R.lt S11_x0) L12
  have S12_g0 := S11_g0.below L12
  have F12_g0 := F11_g0c.below (R.lt S11_g0) L12
  have kc12_0 := rr12_0.cell
  have kc12_1 := rr12_1.cell
  have kc12_2 := rr12_2.cell
  have kc12_3 := rr12_3.cell
  have kc12_4 := rr12_4.cell
  clear rr11_0 rr11_1 rr11_2 rr11_3 hrow11 G11 S11_w0 F11_w0 S11_x0 F11_x0 S11_g0 F11_g0c kc11_0 kc11_1 kc11_2 kc11_3 kc11_4 L12 hb12
  go_wp2_with fail
  have tok6 : True := trivial
  have tok7 : True := trivial
  go_region_held3 (fun w' => w'.cell? ⟨w.heap.size, 0, none⟩ = some (.slice A0_0 x0.cells.length d0_0) ∧ w'.cell? ⟨w7.heap.size, 0, none⟩ = some (.slice A_x00 (x0).cells.length d_x00)) (go_keep)
    (first
    | (go_at_call 9; have _t := tok6; refine (x0.toSaid _ _ _ ((hx0.below G12).below (Below.refl _ _).drew) hw0).mono ?_; rintro e w13 ⟨f13, cc13, rfl, S13, F13, hb13⟩; obtain ⟨u_t50, g_t50, hqf, rfl, hU_t50⟩ := GNb.opened.1 S13; clear hqf; obtain ⟨A_t50, d_t50, rfl, hqa, hqb⟩ := hU_t50.formT; clear hqa hqb hU_t50; have hb13 := (Below.refl _ _).drew.trans hb13; have L13 : Below w12.heap.size w12 w13 := hb13; have rr13_0 := rr12_0.below L13; have rr13_1 := rr12_1.below L13; have rr13_2 := rr12_2.below L13; have rr13_3 := rr12_3.below L13; have rr13_4 := rr12_4.below L13; have F13b := F13.mono (base' := w12.heap.size) (Nat.le_refl _); have G13 : Below w.heap.size w w13 := G12.trans (L13.mono G12.size); have F13c := F13b.mono (base' := w.heap.size) (G12.size); have S13_x0 := S12_x0.below L13; have F13_x0 := F12_x0.below (R.lt S12_x0) L13; have kc13_0 := rr13_0.cell; have kc13_1 := rr13_1.cell; have kc13_2 := rr13_2.cell; have kc13_3 := rr13_3.cell; have kc13_4 := rr13_4.cell; clear rr12_0 rr12_1 rr12_2 rr12_3 rr12_4 G12 F13 F13b S12_x0 F12_x0 kc12_0 kc12_1 kc12_2 kc12_3 kc12_4 L13 hb13; clear tok6)
    | (go_at_call 12; have _t := tok7; refine (GNb.eqSaid (x0) _ _ _ _ _ (S13_x0) (S13)).mono ?_; rintro e w14 ⟨rfl, hb14⟩; have L14 : Below w13.heap.size w13 w14 := hb14; have rr14_0 := rr13_0.below L14; have rr14_1 := rr13_1.below L14; have rr14_2 := rr13_2.below L14; have rr14_3 := rr13_3.below L14; have rr14_4 := rr13_4.below L14; have G14 : Below w.heap.size w w14 := G13.trans (L14.mono G13.size); have S14_x0 := S13_x0.below L14; have F14_x0 := F13_x0.below (R.lt S13_x0) L14; have kc14_0 := rr14_0.cell; have kc14_1 := rr14_1.cell; have kc14_2 := rr14_2.cell; have kc14_3 := rr14_3.cell; have kc14_4 := rr14_4.cell; clear rr13_0 rr13_1 rr13_2 rr13_3 rr13_4 G13 S13_x0 F13_x0 kc13_0 kc13_1 kc13_2 kc13_3 kc13_4 L14 hb14; clear tok7))
  go_wp2_with fail
  go_ret
  exact ⟨rfl, G14⟩

open Go.ChangeShapes Go.WideShapes Go.ChangeAt
set_option maxRecDepth 100000 in
theorem lifted_FnExactInverseEdit (os : Os) (started : os.Started) (H : Type) (enc : TypeId × Value → H) :
    ReturnsInHanded {} Try.checked os 4 .any (Rows.fnExactInverseEditSpec.pre6 enc Try.prog Try.f4 Rows.fnExactInverseEditRow.domain false) (Rows.fnExactInverseEditSpec.post enc Try.prog Try.f4 false true false false) := by
  refine returnsInHanded_of_change (C := Try.checked) own_ started (by kernel_rfl) Try.func4
    (ChangeSpec.witness6 (enc := enc) (C := Try.checked) false ⟨#[], #[.agg #[.slice none 0 0], .agg #[.int .i64 0, .int .i64 0, .int .i64 0, .int .i64 0, .int .i64 0, .string .empty, .string .empty, .int .i64 0]], []⟩ 8 (by kernel_rfl) (by kernel_rfl) (by kernel_rfl) (by kernel_rfl)) ?_
  intro W base args ds gs before hval0 hW hcnd _
  have hval : ∀ (j : Nat) t v, Try.f4.params[j]? = some t → args[j]? = some v → Value.okWide Try.prog W .any base t v := hval0
  have hW' := hW
  obtain ⟨p, q, hA0, hV, rfl, hfz, hnd⟩ := hW
  have hA : DataW.TrodAll enc Try.prog W 0 (fun _ => true) true Try.f4.params.toList args.toList ds p := hA0
  rw [Try.params4] at hA hval
  obtain ⟨v0, vs0, d0, ds0, p0, q0, ha0, rfl, rfl, h0, r0⟩ := trodAll_cons hA
  obtain ⟨v1, vs1, d1, ds1, p1, q1, ha1, rfl, rfl, h1, r1⟩ := trodAll_cons r0
  obtain ⟨rfl, rfl, rfl⟩ := trodAll_nil r1
  subst ha1
  obtain rfl : args = #[v0, v1] := by cases args; simp_all
  obtain ⟨rfl, rfl⟩ := trodVars_none hV
  obtain ⟨x0, fx0, cx0, rfl, hx0, wx0⟩ := arg_struct Try.underlying24 (hval 0 24 v0 rfl rfl) (fun n => rd_GNb n) h0
  obtain ⟨x1, fx1, cx1, rfl, hx1, wx1⟩ := arg_struct Try.underlying28 (hval 1 28 v1 rfl rfl) (fun n => rd_GEdit n) h1
  clear hA0 hval0
  have hlt : ∀ z ∈ p0 ++ (p1 ++ []), z.block < W.heap.size := fun z hz => hW'.lt z (by simpa using hz)
  refine (law_FnExactInverseEdit x0 fx0 cx0 x1 fx1 cx1 W hx0 wx0 hx1 wx1).mono fun e W' ⟨he, hb⟩ => ?_
  subst he
  exact ⟨_, rfl, post_of_below (pa := p0 ++ (p1 ++ [])) (pv := []) hW' (fun _ _ _ => trodAll_mk1 (shut_bool Try.underlying4 _))
    (fun sp hsp => ⟨_, _, WideElems.Trod_stays laidOut_ (by kernel_rfl) (of_decide_eq_true (by kernel_rfl)) h0 (fun z hz => hb.same (hlt z (List.mem_append_left _ hz))) (fun z hz => hsp z (by simp [hz])), ⟨_, _, WideElems.Trod_stays laidOut_ (by kernel_rfl) (of_decide_eq_true (by kernel_rfl)) h1 (fun z hz => hb.same (hlt z (List.mem_append_right _ (List.mem_append_left _ hz)))) (fun z hz => hsp z (by simp [hz])), rfl, rfl⟩, rfl⟩) (fun _ _ => rfl) (by simp) hb (ok_one (by kernel_rfl) rfl (okWide_bool_mk Try.underlying4 _))⟩

theorem proved_FnExactInverseEdit : Rows.FnExactInverseEditSaid :=
  OpenClaim.holds_of_wide 4 Try.f4 rfl rfl rfl rfl rfl rfl rfl ⟨rfl, rfl, rfl, rfl, rfl⟩ rfl rfl rfl rfl rfl (by kernel_rfl) Try.func4 (by kernel_rfl)
    (of_decide_eq_true (by kernel_rfl)) (by unfold Func.isWrapper; first | (rw [if_pos (by decide +kernel)]; kernel_rfl) | (rw [if_neg (by decide +kernel)]; exact ⟨rfl, rfl⟩))
    (fun os started H enc _ => lifted_FnExactInverseEdit os started H enc)
end Go.Proofs.Ytokplliaejbbdaa
