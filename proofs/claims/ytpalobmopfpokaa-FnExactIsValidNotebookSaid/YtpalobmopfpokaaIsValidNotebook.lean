/-
  The program's IsValidNotebook returns what the reference's returns, for all arguments. No condition.
-/
import Derived.Test.YtpalobmopfpokaaFin
import Derived.Test.YtpalobmopfpokaaSz
import Derived.Test.YtpalobmopfpokaaTo
import Derived.Test.YtpalobmopfpokaaEq
import Derived.Test.YtpalobmopfpokaaValidNb
namespace Go.Proofs.Ytpalobmopfpokaa
open Go.RowKit
set_option linter.unusedSimpArgs false
set_option linter.unusedVariables false

set_option maxRecDepth 20000 in
set_option maxHeartbeats 4000000 in
theorem law_FnExactIsValidNotebook (x : GNb) (fx : List Nat) (cx : List Value) (w : World) (hx : R w x.toD fx cx) (wx : x.toD.wf) :
    Calls Try.prog 4 #[.agg cx.toArray] w (TruePost w) := by
  have hSx : ∀ W : World, Below w.heap.size w W → Calls Try.prog 8 #[.agg cx.toArray, .int .i64 1048576] W (SzPost 1048576 x.toD.wt W) := fun W h => x.szSaid W _ _ _ (hx.below h) wx (by omega) (by omega)
  have hTx : ∀ W : World, Below w.heap.size w W → x.toD.wt ≤ 1048576 → Calls Try.prog 10 #[.agg cx.toArray] W (ToPost x.toD W) := fun W h hw => x.toSaid W _ _ (hx.below h) hw
  have hws : D.wfs (x.cells.map GCell.toD) := wx.1
  obtain ⟨v1, g1, rfl, rfl, hS1⟩ := GNb.opened.1 hx
  obtain ⟨A1, d1, rfl, _, _⟩ := hS1.formT
  clear hx wx hS1
  go_enter Try.func4, Try.ntmps4
  go_wp2_with fail
  refine (hSx _ ?_).mono ?_
  · exact (Below.refl _ _).alloc (by simp) _
  rintro e w1 ⟨r1, rfl, hr1, _, _, hb1⟩
  obtain ⟨p0, hz1, G1⟩ := rows1 hb1
  have k0 := p0.cell
  clear hb1 hSx
  go_wp2_with fail
  · go_ret
    exact ⟨rfl, G1⟩
  have hwx : x.toD.wt ≤ 1048576 := by have := hr1.le (by omega); omega
  have Hx := fun W h => hTx W h hwx
  clear hTx hr1 hwx
  refine (Hx _ G1).mono ?_
  rintro e w3 ⟨f3, c3, rfl, R3, F3, hb3⟩
  obtain ⟨u3, h3, rfl, rfl, S3⟩ := GNb.opened.1 R3
  obtain ⟨A3, d3, rfl, _, _⟩ := S3.formT
  have p1 := p0.below hb3
  have G3 : Below w.heap.size w w3 := G1.trans (hb3.mono (by omega))
  go_wp2_with fail
  refine (isValidNotebook_spec x.cells _ _ _ S3 hws).mono ?_
  generalize hbb : validNb x.cells = bb at *
  have hbb' := Lib.hid hbb
  clear hbb
  rintro e w5 ⟨rfl, hb5⟩
  have p8 := p1.below hb5
  have k8 := p8.cell
  have G5 : Below w.heap.size w w5 := G3.trans (hb5.mono (by have := G3.size; omega))
  have hz5 : w.heap.size + 1 ≤ w5.heap.size := Nat.le_trans hz1 (Nat.le_trans hb3.size hb5.size)
  clear k0 p0 p1 R3 S3 F3 G1 G3 hb3 hb5
  go_wp2_with fail
  refine (Hx _ G5).mono ?_
  rintro e w6 ⟨f6, c6, rfl, R6, F6, hb6⟩
  obtain ⟨u6, h6, rfl, rfl, S6⟩ := GNb.opened.1 R6
  obtain ⟨A6, d6, rfl, _, _⟩ := S6.formT
  have q0 := p8.below hb6
  have G6 : Below w.heap.size w w6 := G5.trans (hb6.mono (by omega))
  clear hb6 k8 p8 F6
  have i0 := fun o => (q0.below ((Below.refl w6.heap.size w6).alloc (Nat.le_refl _) o)).cell
  go_wp2_with fail
  refine (isValidNotebook_impl x.cells _ _ _ (S6.below ((Below.refl _ _).alloc (Nat.le_refl _) _)) hws).mono ?_
  rw [hbb'.out]
  rintro e w8 ⟨rfl, hb8⟩
  obtain ⟨m3, hz8, L8⟩ := rows1 hb8
  have m0 := q0.below L8
  have R6' := R6.below L8
  have G8 : Below w.heap.size w w8 := G6.trans (L8.mono (by have := G6.size; omega))
  clear hb8 i0 R6 q0 S6 hbb'
  have s0 := m0.cell
  have s3 := m3.cell
  have tok3 : True := trivial
  go_wp2_with fail
  go_region_held3 (fun w' => w'.cell? ⟨w.heap.size, 0, none⟩ = some (.slice A1 x.cells.length d1) ∧ w'.cell? ⟨w6.heap.size, 0, none⟩ = some (.slice A6 x.cells.length d6)) (go_keep)
    (first
    | (go_at_call 10; have _t := tok3; refine (Hx _ ?_).mono ?_; (exact G8.drew); rintro e w9 ⟨f9, c9, rfl, R9, F9, hb9⟩; have L9 : Below w8.heap.size w8 w9 := (Below.refl _ _).drew.trans hb9; have o0 := m0.below L9; have o3 := m3.below L9; have t0 := o0.cell; have t3 := o3.cell; have G9 : Below w.heap.size w w9 := G8.trans (L9.mono (by have := G8.size; omega)); clear hb9 tok3)
    | (go_at_call 12; refine (x.eqSaid _ _ _ _ _ (R6'.below L9) R9).mono ?_; rintro e w10 ⟨rfl, hb10⟩; have y0 := o0.below hb10; have y3 := o3.below hb10; have z0 := y0.cell; have z3 := y3.cell; have G10 : Below w.heap.size w w10 := G9.trans (hb10.mono (by have := G9.size; omega))))
  go_wp2_with fail
  go_ret
  exact ⟨rfl, G10⟩

open Go.ChangeShapes Go.WideShapes Go.ChangeAt
set_option maxRecDepth 100000 in
theorem lifted_FnExactIsValidNotebook (os : Os) (started : os.Started) (H : Type) (enc : TypeId × Value → H) :
    ReturnsInHanded {} Try.checked os 4 .any (Rows.fnExactIsValidNotebookSpec.pre6 enc Try.prog Try.f4 Rows.fnExactIsValidNotebookRow.domain false) (Rows.fnExactIsValidNotebookSpec.post enc Try.prog Try.f4 false true false false) := by
  refine returnsInHanded_of_change (C := Try.checked) own_ started (by kernel_rfl) Try.func4
    (ChangeSpec.witness6 (enc := enc) (C := Try.checked) false ⟨#[], #[.agg #[.slice none 0 0]], []⟩ 8 (by kernel_rfl) (by kernel_rfl) (by kernel_rfl) (by kernel_rfl)) ?_
  intro W base args ds gs before hval0 hW hcnd _
  have hval : ∀ (j : Nat) t v, Try.f4.params[j]? = some t → args[j]? = some v → Value.okWide Try.prog W .any base t v := hval0
  have hW' := hW
  obtain ⟨p, q, hA0, hV, rfl, hfz, hnd⟩ := hW
  have hA : DataW.TrodAll enc Try.prog W 0 (fun _ => true) true Try.f4.params.toList args.toList ds p := hA0
  rw [Try.params4] at hA hval
  obtain ⟨v0, vs0, d0, ds0, p0, q0, hargs, rfl, rfl, h0, r0⟩ := trodAll_cons hA
  obtain ⟨rfl, rfl, rfl⟩ := trodAll_nil r0
  obtain rfl : args = #[v0] := by cases args; simp_all
  obtain ⟨rfl, rfl⟩ := trodVars_none hV
  obtain ⟨x, fx, cx, rfl, hx, wx⟩ := arg_struct Try.underlying24 (hval 0 24 v0 rfl rfl) (fun n => rd_GNb n) h0
  clear hA0 hval0
  simp only [List.append_nil] at hW'
  have hlt : ∀ z ∈ p0, z.block < W.heap.size := fun z hz => by simpa using hW'.lt z hz
  refine (law_FnExactIsValidNotebook x fx cx W hx wx).mono fun e W' ⟨he, hb⟩ => ?_
  subst he
  exact ⟨_, rfl, post_of_below (pa := p0) (pv := []) hW' (fun _ _ _ => trodAll_mk1 (shut_bool Try.underlying4 _))
    (fun sp hsp => trodAll_mk1 (WideElems.Trod_stays laidOut_ (by kernel_rfl) (of_decide_eq_true (by kernel_rfl)) h0 (fun z hz => hb.same (hlt z hz)) (fun z hz => hsp z hz))) (fun _ _ => rfl) (by simp) hb (ok_one (by kernel_rfl) rfl (okWide_bool_mk Try.underlying4 _))⟩

theorem proved_FnExactIsValidNotebook : Rows.FnExactIsValidNotebookSaid :=
  OpenClaim.holds_of_wide 4 Try.f4 rfl rfl rfl rfl rfl rfl rfl ⟨rfl, rfl, rfl, rfl, rfl⟩ rfl rfl rfl rfl rfl (by kernel_rfl) Try.func4 (by kernel_rfl)
    (of_decide_eq_true (by kernel_rfl)) (by unfold Func.isWrapper; first | (rw [if_pos (by decide +kernel)]; kernel_rfl) | (rw [if_neg (by decide +kernel)]; exact ⟨rfl, rfl⟩))
    (fun os started H enc _ => lifted_FnExactIsValidNotebook os started H enc)
end Go.Proofs.Ytpalobmopfpokaa
