/-
  The program's SameContent returns what the reference's returns, for all arguments. No condition.
-/
import Derived.Test.YtpalobmopfpokaaFin
import Derived.Test.YtpalobmopfpokaaSz
import Derived.Test.YtpalobmopfpokaaTo
import Derived.Test.YtpalobmopfpokaaEq
import Derived.Test.YtpalobmopfpokaaCells
namespace Go.Proofs.Ytpalobmopfpokaa
open Go.RowKit
set_option linter.unusedSimpArgs false
set_option linter.unusedVariables false

theorem GNb.len_le {x : GNb} {k : Nat} (h : x.toD.wt ≤ k) : x.cells.length ≤ k := by
  rw [GNb.wt_eq, List.length_map] at h
  omega

set_option maxRecDepth 20000 in
set_option maxHeartbeats 4000000 in
theorem law_FnExactSameContent (x y : GNb) (fx fy : List Nat) (cx cy : List Value) (w : World) (hx : R w x.toD fx cx) (hy : R w y.toD fy cy) (wx : x.toD.wf) (wy : y.toD.wf) :
    Calls Try.prog 3 #[.agg cx.toArray, .agg cy.toArray] w (TruePost w) := by
  have hSx : ∀ W : World, Below w.heap.size w W → Calls Try.prog 8 #[.agg cx.toArray, .int .i64 1048576] W (SzPost 1048576 x.toD.wt W) := fun W h => x.szSaid W _ _ _ (hx.below h) wx (by omega) (by omega)
  have hSy : ∀ (W : World) (r : Int), Below w.heap.size w W → 0 ≤ r → r ≤ 1048576 → Calls Try.prog 8 #[.agg cy.toArray, .int .i64 r] W (SzPost r y.toD.wt W) := fun W r h h0 h1 => y.szSaid W _ _ _ (hy.below h) wy h0 h1
  have hTx : ∀ W : World, Below w.heap.size w W → x.toD.wt ≤ 1048576 → Calls Try.prog 10 #[.agg cx.toArray] W (ToPost x.toD W) := fun W h hw => x.toSaid W _ _ (hx.below h) hw
  have hTy : ∀ W : World, Below w.heap.size w W → y.toD.wt ≤ 1048576 → Calls Try.prog 10 #[.agg cy.toArray] W (ToPost y.toD W) := fun W h hw => y.toSaid W _ _ (hy.below h) hw
  obtain ⟨v1, g1, rfl, rfl, hS1⟩ := GNb.opened.1 hx
  obtain ⟨v2, g2, rfl, rfl, hS2⟩ := GNb.opened.1 hy
  obtain ⟨A1, d1, rfl, _, _⟩ := hS1.formT
  obtain ⟨A2, d2, rfl, _, _⟩ := hS2.formT
  clear hx hy wx wy hS1 hS2
  go_enter Try.func3, Try.ntmps3
  go_wp2_with fail
  refine (hSx _ ?_).mono ?_
  · exact ((Below.refl _ _).alloc (by simp) _).alloc (by simp; try omega) _
  rintro e w1 ⟨r1, rfl, hr1, _, _, hb1⟩
  obtain ⟨p0, p1, hz1, G1⟩ := rows2 hb1
  have k0 := p0.cell
  have k1 := p1.cell
  clear hb1 hSx
  go_wp2_with fail
  · go_ret
    exact ⟨rfl, G1⟩
  refine (hSy _ _ G1 (by omega) (by omega)).mono ?_
  rintro e w2 ⟨r2, rfl, hr2, _, _, hb2⟩
  have p2 := p0.below hb2
  have p3 := p1.below hb2
  have k2 := p2.cell
  have k3 := p3.cell
  have hz2 := Nat.le_trans hz1 hb2.size
  have G2 : Below w.heap.size w w2 := G1.trans (hb2.mono (by omega))
  clear hb2 hSy p0 p1 k0 k1
  go_wp2_with fail
  · go_ret
    exact ⟨rfl, G2⟩
  have hwx : x.toD.wt ≤ 1048576 := by have := hr1.le (by omega); have := hr2.le (by omega); omega
  have hwy : y.toD.wt ≤ 1048576 := by have := hr1.le (by omega); have := hr2.le (by omega); omega
  have hlx := GNb.len_le hwx
  have hly := GNb.len_le hwy
  have Hx := fun W h => hTx W h hwx
  have Hy := fun W h => hTy W h hwy
  clear hTx hTy hr1 hr2 hwx hwy
  have tok1 : True := trivial
  have tok2 : True := trivial
  go_region_held3 (fun w' => w'.cell? ⟨w.heap.size, 0, none⟩ = some (.slice A1 x.cells.length d1) ∧ w'.cell? ⟨w.heap.size + 1, 0, none⟩ = some (.slice A2 y.cells.length d2)) (go_keep)
    (first
    | (go_at_call 10; have _t := tok1; refine (Hx _ ?_).mono ?_; (exact G2.drew); rintro e w3 ⟨f3, c3, rfl, R3, F3, hb3⟩; have L3 : Below w2.heap.size w2 w3 := (Below.refl _ _).drew.trans hb3; have p4 := p2.below L3; have p5 := p3.below L3; have k4 := p4.cell; have k5 := p5.cell; have G3 : Below w.heap.size w w3 := G2.trans (L3.mono (by omega)); clear hb3 tok1)
    | (go_at_call 10; have _t := tok2; refine (Hy _ G3).mono ?_; rintro e w4 ⟨f4, c4, rfl, R4, F4, hb4⟩; have p6 := p4.below hb4; have p7 := p5.below hb4; have k6 := p6.cell; have k7 := p7.cell; have hz4 := Nat.le_trans (Nat.le_trans hz2 L3.size) hb4.size; have G4 : Below w.heap.size w w4 := G3.trans (hb4.mono (by have := L3.size; omega)); clear tok2)
    | (go_at_call 9; refine (sameContent_spec x y _ _ _ _ _ (R3.below hb4) R4 hlx hly).mono ?_; rintro e w5 ⟨rfl, hb5⟩; have p8 := p6.below hb5; have p9 := p7.below hb5; have k8 := p8.cell; have k9 := p9.cell; have hz5 := Nat.le_trans hz4 hb5.size; have G5 : Below w.heap.size w w5 := G4.trans (hb5.mono (by omega))))
  clear k2 k3 k4 k5 k6 k7 p2 p3 p4 p5 p6 p7 R3 R4 F3 F4 L3 hb4 hb5 G1 G2 G3 G4
  generalize hbb : decide (x.cells.map GCell.unver = y.cells.map GCell.unver) = bb at *
  have hbb' := Lib.hid hbb
  clear hbb
  go_wp2_with fail
  refine (Hx _ G5).mono ?_
  rintro e w6 ⟨f6, c6, rfl, R6, F6, hb6⟩
  obtain ⟨u6, h6, rfl, rfl, S6⟩ := GNb.opened.1 R6
  obtain ⟨A6, d6, rfl, _, _⟩ := S6.formT
  have q0 := p8.below hb6
  have q1 := p9.below hb6
  have G6 : Below w.heap.size w w6 := G5.trans (hb6.mono (by omega))
  have hz6 := Nat.le_trans hz5 hb6.size
  have j0 := fun o => (q0.below ((Below.refl w6.heap.size w6).alloc (Nat.le_refl _) o)).cell
  have j1 := fun o => (q1.below ((Below.refl w6.heap.size w6).alloc (Nat.le_refl _) o)).cell
  clear hb6 k8 k9 p8 p9 S6 F6
  go_wp2_with fail
  refine (Hy _ (G6.alloc (by omega) _)).mono ?_
  rintro e w7 ⟨f7, c7, rfl, R7, F7, hb7⟩
  obtain ⟨u7, h7, rfl, rfl, S7⟩ := GNb.opened.1 R7
  obtain ⟨A7, d7, rfl, _, _⟩ := S7.formT
  obtain ⟨q3, hz7, L7⟩ := rows1 hb7
  have q4 := q0.below L7
  have q5 := q1.below L7
  have R6' := R6.below L7
  have G7 : Below w.heap.size w w7 := G6.trans (L7.mono (by omega))
  clear hb7 j0 j1 R6 q0 q1 S7 F7 L7
  have i0 := fun o => (q4.below ((Below.refl w7.heap.size w7).alloc (Nat.le_refl _) o)).cell
  have i1 := fun o => (q5.below ((Below.refl w7.heap.size w7).alloc (Nat.le_refl _) o)).cell
  have i3 := fun o => (q3.below ((Below.refl w7.heap.size w7).alloc (Nat.le_refl _) o)).cell
  go_wp2_with fail
  refine (sameContent_impl x y _ _ _ _ _ (R6'.below ((Below.refl _ _).alloc (Nat.le_refl _) _)) (R7.below ((Below.refl _ _).alloc (Nat.le_refl _) _)) hlx hly).mono ?_
  rw [hbb'.out]
  rintro e w8 ⟨rfl, hb8⟩
  obtain ⟨m3, hz8, L8⟩ := rows1 hb8
  have m0 := q4.below L8
  have m1 := q5.below L8
  have m2 := q3.below L8
  have R6'' := R6'.below L8
  have R7' := R7.below L8
  have G8 : Below w.heap.size w w8 := G7.trans (L8.mono (by omega))
  clear hb8 i0 i1 i3 R6' R7 q3 q4 q5 L8 hbb'
  have s0 := m0.cell
  have s1 := m1.cell
  have s2 := m2.cell
  have s3 := m3.cell
  have tok3 : True := trivial
  go_wp2_with fail
  go_region_held3 (fun w' => w'.cell? ⟨w.heap.size, 0, none⟩ = some (.slice A1 x.cells.length d1) ∧ w'.cell? ⟨w6.heap.size, 0, none⟩ = some (.slice A6 x.cells.length d6)) (go_keep)
    (first
    | (go_at_call 10; have _t := tok3; refine (Hx _ ?_).mono ?_; (exact G8.drew); rintro e w9 ⟨f9, c9, rfl, R9, F9, hb9⟩; have L9 : Below w8.heap.size w8 w9 := (Below.refl _ _).drew.trans hb9; have o0 := m0.below L9; have o1 := m1.below L9; have o2 := m2.below L9; have o3 := m3.below L9; have t0 := o0.cell; have t1 := o1.cell; have t2 := o2.cell; have t3 := o3.cell; have G9 : Below w.heap.size w w9 := G8.trans (L9.mono (by omega)); clear hb9 tok3)
    | (go_at_call 12; refine (x.eqSaid _ _ _ _ _ (R6''.below L9) R9).mono ?_; rintro e w10 ⟨rfl, hb10⟩; have y0 := o0.below hb10; have y1 := o1.below hb10; have y2 := o2.below hb10; have y3 := o3.below hb10; have z0 := y0.cell; have z1 := y1.cell; have z2 := y2.cell; have z3 := y3.cell; have L10 : Below w8.heap.size w8 w10 := L9.trans (hb10.mono L9.size); have G10 : Below w.heap.size w w10 := G8.trans (L10.mono (by omega))))
  have R7'' := R7'.below L10
  clear s0 s1 s2 s3 t0 t1 t2 t3 m0 m1 m2 m3 o0 o1 o2 o3 R6'' R7' R9 F9 hb10 L9 L10 G8 G9
  have tok4 : True := trivial
  go_wp2_with fail
  go_region_held3 (fun w' => w'.cell? ⟨w.heap.size + 1, 0, none⟩ = some (.slice A2 y.cells.length d2) ∧ w'.cell? ⟨w7.heap.size, 0, none⟩ = some (.slice A7 y.cells.length d7)) (go_keep)
    (first
    | (go_at_call 10; have _t := tok4; refine (Hy _ ?_).mono ?_; (exact G10.drew); rintro e w11 ⟨f11, c11, rfl, R11, F11, hb11⟩; have L11 : Below w10.heap.size w10 w11 := (Below.refl _ _).drew.trans hb11; have o1 := y1.below L11; have o3 := y3.below L11; have t1 := o1.cell; have t3 := o3.cell; have G11 : Below w.heap.size w w11 := G10.trans (L11.mono (by have := G10.size; omega)); clear hb11 tok4)
    | (go_at_call 12; refine (y.eqSaid _ _ _ _ _ (R7''.below L11) R11).mono ?_; rintro e w12 ⟨rfl, hb12⟩; have v1 := (o1.below hb12).cell; have v3 := (o3.below hb12).cell; have G12 : Below w.heap.size w w12 := G11.trans (hb12.mono (by have := G11.size; omega))))
  go_wp2_with fail
  go_ret
  exact ⟨rfl, G12⟩

open Go.ChangeShapes Go.WideShapes Go.ChangeAt
set_option maxRecDepth 100000 in
theorem lifted_FnExactSameContent (os : Os) (started : os.Started) (H : Type) (enc : TypeId × Value → H) :
    ReturnsInHanded {} Try.checked os 3 .any (Rows.fnExactSameContentSpec.pre6 enc Try.prog Try.f3 Rows.fnExactSameContentRow.domain false) (Rows.fnExactSameContentSpec.post enc Try.prog Try.f3 false true false false) := by
  refine returnsInHanded_of_change (C := Try.checked) own_ started (by kernel_rfl) Try.func3
    (ChangeSpec.witness6 (enc := enc) (C := Try.checked) false ⟨#[], #[.agg #[.slice none 0 0], .agg #[.slice none 0 0]], []⟩ 8 (by kernel_rfl) (by kernel_rfl) (by kernel_rfl) (by kernel_rfl)) ?_
  intro W base args ds gs before hval0 hW hcnd _
  have hval : ∀ (j : Nat) t v, Try.f3.params[j]? = some t → args[j]? = some v → Value.okWide Try.prog W .any base t v := hval0
  have hW' := hW
  obtain ⟨p, q, hA0, hV, rfl, hfz, hnd⟩ := hW
  have hA : DataW.TrodAll enc Try.prog W 0 (fun _ => true) true Try.f3.params.toList args.toList ds p := hA0
  rw [Try.params3] at hA hval
  obtain ⟨v0, v1, d0, d1, p0, p1, rfl, rfl, rfl, h0, h1⟩ := trodAll_two hA
  obtain ⟨rfl, rfl⟩ := trodVars_none hV
  obtain ⟨x, fx, cx, rfl, hx, wx⟩ := arg_struct Try.underlying24 (hval 0 24 v0 rfl rfl) (fun n => rd_GNb n) h0
  obtain ⟨y, fy, cy, rfl, hy, wy⟩ := arg_struct Try.underlying24 (hval 1 24 v1 rfl rfl) (fun n => rd_GNb n) h1
  clear hA0 hval0
  simp only [List.append_nil] at hW'
  have hlt : ∀ z ∈ p0 ++ p1, z.block < W.heap.size := fun z hz => by simpa using hW'.lt z hz
  refine (law_FnExactSameContent x y fx fy cx cy W hx hy wx wy).mono fun e W' ⟨he, hb⟩ => ?_
  subst he
  exact ⟨_, rfl, post_of_below (pa := p0 ++ p1) (pv := []) hW' (fun _ _ _ => trodAll_mk1 (shut_bool Try.underlying4 _))
    (fun sp hsp => trodAll_mk2 (WideElems.Trod_stays laidOut_ (by kernel_rfl) (of_decide_eq_true (by kernel_rfl)) h0 (fun z hz => hb.same (hlt z (List.mem_append_left _ hz))) (fun z hz => hsp z (List.mem_append_left _ hz))) (WideElems.Trod_stays laidOut_ (by kernel_rfl) (of_decide_eq_true (by kernel_rfl)) h1 (fun z hz => hb.same (hlt z (List.mem_append_right _ hz))) (fun z hz => hsp z (List.mem_append_right _ hz)))) (fun _ _ => rfl) (by simp) hb (ok_one (by kernel_rfl) rfl (okWide_bool_mk Try.underlying4 _))⟩

theorem proved_FnExactSameContent : Rows.FnExactSameContentSaid :=
  OpenClaim.holds_of_wide 3 Try.f3 rfl rfl rfl rfl rfl rfl rfl ⟨rfl, rfl, rfl, rfl, rfl⟩ rfl rfl rfl rfl rfl (by kernel_rfl) Try.func3 (by kernel_rfl)
    (of_decide_eq_true (by kernel_rfl)) (by unfold Func.isWrapper; first | (rw [if_pos (by decide +kernel)]; kernel_rfl) | (rw [if_neg (by decide +kernel)]; exact ⟨rfl, rfl⟩))
    (fun os started H enc _ => lifted_FnExactSameContent os started H enc)
end Go.Proofs.Ytpalobmopfpokaa
