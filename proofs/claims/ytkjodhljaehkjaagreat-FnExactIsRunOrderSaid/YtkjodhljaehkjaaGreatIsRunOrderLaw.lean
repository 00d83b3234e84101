/-
  The program's IsRunOrder returns what the reference's returns, for all arguments. No condition.
-/
import Derived.Test.YtkjodhljaehkjaaGreatJA
import Derived.Test.YtkjodhljaehkjaaGreatJB
import Derived.Test.YtkjodhljaehkjaaGreatJG
namespace Go.Proofs.YtkjodhljaehkjaaGreat
open Go.RowKit
set_option linter.unusedSimpArgs false
set_option linter.unusedVariables false

set_option maxRecDepth 40000 in
set_option maxHeartbeats 8000000 in
theorem law_FnExactIsRunOrder (l0 : List GPart) (fx0 : List Nat) (v0 : Value) (l1 : List Int) (fx1 : List Nat) (v1 : Value) (w : World) (hx0 : Sl w (l0.map GPart.toD) fx0 v0) (wx0 : D.wfs (l0.map GPart.toD)) (hx1 : Sl w (l1.map li) fx1 v1) (wx1 : D.wfs (l1.map li)) :
    Calls Tryz.prog 6 #[v0, v1] w (TruePost w) := by
  obtain ⟨A0, d0, rfl, hqa, hqb⟩ := hx0.formT
  clear hqa hqb
  obtain ⟨A1, d1, rfl, hqa, hqb⟩ := hx1.formT
  clear hqa hqb
  go_enter Tryz.func6, Tryz.ntmps6
  go_wp2_with fail
  · go_ret
    exact ⟨rfl, (Below.refl _ _)⟩
  refine (PartS_szSaid l0 _ _ _ _ (hx0) wx0 (by omega) (by omega)).mono ?_
  rintro e w1 ⟨r1, rfl, hr1, hqa, hqb, hb1⟩
  have L1 : Below w.heap.size w w1 := hb1
  have G1 : Below w.heap.size w w1 := L1
  clear L1 hb1
  go_wp2_with fail
  · go_ret
    exact ⟨rfl, G1⟩
  have hw0 : (l0.map GPart.toD).length + D.wts (l0.map GPart.toD) ≤ 1048576 := by have := hr1.le (by omega); omega
  have hn0 : l0.length ≤ 1048576 := by have := hw0; rw [List.length_map] at this; omega
  have hn1 : l1.length ≤ 1048576 := by omega
  have hw1 : (l1.map li).length + D.wts (l1.map li) ≤ 1048576 := by rw [Int_szs_wts, List.length_map]; omega
  have hwm := hw0
  rw [List.length_map] at hwm
  obtain ⟨r0, hr0⟩ : ∃ r : Bool, ordB l0 l1 = r := ⟨_, rfl⟩
  clear hr1
  refine (PartS_toSaid l0 _ _ _ ((hx0.below G1)) hw0).mono ?_
  rintro e w2 ⟨f2, vv2, rfl, S2, F2, hb2⟩
  obtain ⟨A_t1, d_t1, rfl, hqa, hqb⟩ := S2.formT
  clear hqa hqb
  have L2 : Below w1.heap.size w1 w2 := hb2
  have F2b := F2.mono (base' := w1.heap.size) (Nat.le_refl _)
  have G2 : Below w.heap.size w w2 := G1.trans (L2.mono G1.size)
  have F2c := F2b.mono (base' := w.heap.size) (G1.size)
  clear G1 F2 F2b L2 hb2
  go_wp2_with fail
  refine (IntS_toSaid l1 _ _ _ ((hx1.below G2)) hw1).mono ?_
  rintro e w3 ⟨f3, vv3, rfl, S3, F3, hb3⟩
  obtain ⟨A_t2, d_t2, rfl, hqa, hqb⟩ := S3.formT
  clear hqa hqb
  have L3 : Below w2.heap.size w2 w3 := hb3
  have F3b := F3.mono (base' := w2.heap.size) (Nat.le_refl _)
  have G3 : Below w.heap.size w w3 := G2.trans (L3.mono G2.size)
  have F3c := F3b.mono (base' := w.heap.size) (G2.size)
  have S3_t1 := S2.below L3
  have F3_t1 := F2c.below (R.lt S2) L3
  clear G2 F3 F3b S2 F2c L3 hb3
  go_wp2_with fail
  refine (isRunOrder_spec l0 l1 r0 hr0 _ _ _ _ _ (S3_t1) (S3) hwm hn1).mono ?_
  rintro e w4 ⟨rfl, hb4⟩
  have L4 : Below w3.heap.size w3 w4 := hb4
  have G4 : Below w.heap.size w w4 := G3.trans (L4.mono G3.size)
  clear G3 L4 hb4
  go_wp2_with fail
  refine (PartS_toSaid l0 _ _ _ ((hx0.below G4)) hw0).mono ?_
  rintro e w5 ⟨f5, vv5, rfl, S5, F5, hb5⟩
  obtain ⟨A_x0, d_x0, rfl, hqa, hqb⟩ := S5.formT
  clear hqa hqb
  have L5 : Below w4.heap.size w4 w5 := hb5
  have F5b := F5.mono (base' := w4.heap.size) (Nat.le_refl _)
  have G5 : Below w.heap.size w w5 := G4.trans (L5.mono G4.size)
  have F5c := F5b.mono (base' := w.heap.size) (G4.size)
  clear G4 F5 F5b L5 hb5
  go_wp2_with fail
  refine (IntS_toSaid l1 _ _ _ ((hx1.below G5)) hw1).mono ?_
  rintro e w6 ⟨f6, vv6, rfl, S6, F6, hb6⟩
  obtain ⟨A_x1, d_x1, rfl, hqa, hqb⟩ := S6.formT
  clear hqa hqb
  have L6 : Below w5.heap.size w5 w6 := hb6
  have F6b := F6.mono (base' := w5.heap.size) (Nat.le_refl _)
  have G6 : Below w.heap.size w w6 := G5.trans (L6.mono G5.size)
  have F6c := F6b.mono (base' := w.heap.size) (G5.size)
  have S6_x0 := S5.below L6
  have F6_x0 := F5c.below (R.lt S5) L6
  clear G5 F6 F6b S5 F5c L6 hb6
  go_wp2_with fail
  refine (isRunOrder_impl l0 l1 r0 hr0 _ _ _ _ _ (S6_x0) (S6) hwm hn1).mono ?_
  rintro e w7 ⟨rfl, hb7⟩
  have L7 : Below w6.heap.size w6 w7 := hb7
  have G7 : Below w.heap.size w w7 := G6.trans (L7.mono G6.size)
  have S7_x0 := S6_x0.below L7
  have F7_x0 := F6_x0.below (R.lt S6_x0) L7
  have S7_x1 := S6.below L7
  have F7_x1 := F6c.below (R.lt S6) L7
  clear G6 S6_x0 F6_x0 S6 F6c L7 hb7
  go_wp2_with fail
  refine (PartS_toSaid l0 _ _ _ ((hx0.below G7)) hw0).mono ?_
  rintro e w8 ⟨f8, vv8, rfl, S8, F8, hb8⟩
  obtain ⟨A_t5, d_t5, rfl, hqa, hqb⟩ := S8.formT
  clear hqa hqb
  have L8 : Below w7.heap.size w7 w8 := hb8
  have F8b := F8.mono (base' := w7.heap.size) (Nat.le_refl _)
  have G8 : Below w.heap.size w w8 := G7.trans (L8.mono G7.size)
  have F8c := F8b.mono (base' := w.heap.size) (G7.size)
  have S8_x0 := S7_x0.below L8
  have F8_x0 := F7_x0.below (R.lt S7_x0) L8
  have S8_x1 := S7_x1.below L8
  have F8_x1 := F7_x1.below (R.lt S7_x1) L8
  clear G7 F8 F8b S7_x0 F7_x0 S7_x1 F7_x1 L8 hb8
  go_wp2_with fail
  refine (PartS_eqSaid (l0) _ _ _ _ _ (S8_x0) (S8)).mono ?_
  rintro e w9 ⟨rfl, hb9⟩
  have L9 : Below w8.heap.size w8 w9 := hb9
  have G9 : Below w.heap.size w w9 := G8.trans (L9.mono G8.size)
  have S9_x0 := S8_x0.below L9
  have F9_x0 := F8_x0.below (R.lt S8_x0) L9
  have S9_x1 := S8_x1.below L9
  have F9_x1 := F8_x1.below (R.lt S8_x1) L9
  clear G8 S8_x0 F8_x0 S8_x1 F8_x1 L9 hb9
  go_wp2_with fail
  refine (IntS_toSaid l1 _ _ _ ((hx1.below G9)) hw1).mono ?_
  rintro e w10 ⟨f10, vv10, rfl, S10, F10, hb10⟩
  obtain ⟨A_t6, d_t6, rfl, hqa, hqb⟩ := S10.formT
  clear hqa hqb
  have L10 : Below w9.heap.size w9 w10 := hb10
  have F10b := F10.mono (base' := w9.heap.size) (Nat.le_refl _)
  have G10 : Below w.heap.size w w10 := G9.trans (L10.mono G9.size)
  have F10c := F10b.mono (base' := w.heap.size) (G9.size)
  have S10_x1 := S9_x1.below L10
  have F10_x1 := F9_x1.below (R.lt S9_x1) L10
  clear G9 F10 F10b S9_x1 F9_x1 L10 hb10
  go_wp2_with fail
  refine (IntS_eqSaid (l1) _ _ _ _ _ (S10_x1) (S10)).mono ?_
  rintro e w11 ⟨rfl, hb11⟩
  have L11 : Below w10.heap.size w10 w11 := hb11
  have G11 : Below w.heap.size w w11 := G10.trans (L11.mono G10.size)
  have S11_x1 := S10_x1.below L11
  have F11_x1 := F10_x1.below (R.lt S10_x1) L11
  clear G10 S10_x1 F10_x1 L11 hb11
  go_wp2_with fail
  go_ret
  exact ⟨rfl, G11⟩

open Go.ChangeShapes Go.WideShapes Go.ChangeAt
set_option maxRecDepth 100000 in
theorem lifted_FnExactIsRunOrder (os : Os) (started : os.Started) (H : Type) (enc : TypeId × Value → H) :
    ReturnsInHanded {} Tryz.checked os 6 .any (Rows.fnExactIsRunOrderSpec.pre6 enc Tryz.prog Tryz.f6 Rows.fnExactIsRunOrderRow.domain false) (Rows.fnExactIsRunOrderSpec.post enc Tryz.prog Tryz.f6 false true false false) := by
  refine returnsInHanded_of_change (C := Tryz.checked) own_ started (by kernel_rfl) Tryz.func6
    (ChangeSpec.witness6 (enc := enc) (C := Tryz.checked) false ⟨#[], #[.slice none 0 0, .slice none 0 0], []⟩ 8 (by kernel_rfl) (by kernel_rfl) (by kernel_rfl) (by kernel_rfl)) ?_
  intro W base args ds gs before hval0 hW hcnd _
  have hval : ∀ (j : Nat) t v, Tryz.f6.params[j]? = some t → args[j]? = some v → Value.okWide Tryz.prog W .any base t v := hval0
  have hW' := hW
  obtain ⟨p, q, hA0, hV, rfl, hfz, hnd⟩ := hW
  have hA : DataW.TrodAll enc Tryz.prog W 0 (fun _ => true) true Tryz.f6.params.toList args.toList ds p := hA0
  rw [Tryz.params6] at hA hval
  obtain ⟨v0, vs0, d0, ds0, p0, q0, ha0, rfl, rfl, h0, r0⟩ := trodAll_cons hA
  obtain ⟨v1, vs1, d1, ds1, p1, q1, ha1, rfl, rfl, h1, r1⟩ := trodAll_cons r0
  obtain ⟨rfl, rfl, rfl⟩ := trodAll_nil r1
  subst ha1
  obtain rfl : args = #[v0, v1] := by cases args; simp_all
  obtain ⟨rfl, rfl⟩ := trodVars_none hV
  obtain ⟨x0, fx0, hx0, wx0⟩ := arg_slice Tryz.underlying22 (hval 0 22 v0 rfl rfl) (fun n => rd_SGPart n) h0
  obtain ⟨x1, fx1, hx1, wx1⟩ := arg_slice Tryz.underlying29 (hval 1 29 v1 rfl rfl) (fun n => rd_Sint n) h1
  clear hA0 hval0
  have hlt : ∀ z ∈ p0 ++ (p1 ++ []), z.block < W.heap.size := fun z hz => hW'.lt z (by simpa using hz)
  refine (law_FnExactIsRunOrder x0 fx0 _ x1 fx1 _ W hx0 wx0 hx1 wx1).mono fun e W' ⟨he, hb⟩ => ?_
  subst he
  exact ⟨_, rfl, post_of_below (pa := p0 ++ (p1 ++ [])) (pv := []) hW' (fun _ _ _ => trodAll_mk1 (shut_bool Tryz.underlying4 _))
    (fun sp hsp => ⟨_, _, WideElems.Trod_stays laidOut_ (by kernel_rfl) (of_decide_eq_true (by kernel_rfl)) h0 (fun z hz => hb.same (hlt z (List.mem_append_left _ hz))) (fun z hz => hsp z (by simp [hz])), ⟨_, _, WideElems.Trod_stays laidOut_ (by kernel_rfl) (of_decide_eq_true (by kernel_rfl)) h1 (fun z hz => hb.same (hlt z (List.mem_append_right _ (List.mem_append_left _ hz)))) (fun z hz => hsp z (by simp [hz])), rfl, rfl⟩, rfl⟩) (fun _ _ => rfl) (by simp) hb (ok_one (by kernel_rfl) rfl (okWide_bool_mk Tryz.underlying4 _))⟩

theorem proved_FnExactIsRunOrder : Rows.FnExactIsRunOrderSaid :=
  OpenClaim.holds_of_wide 6 Tryz.f6 rfl rfl rfl rfl rfl rfl rfl ⟨rfl, rfl, rfl, rfl, rfl⟩ rfl rfl rfl rfl rfl (by kernel_rfl) Tryz.func6 (by kernel_rfl)
    (of_decide_eq_true (by kernel_rfl)) (by unfold Func.isWrapper; first | (rw [if_pos (by decide +kernel)]; kernel_rfl) | (rw [if_neg (by decide +kernel)]; exact ⟨rfl, rfl⟩))
    (fun os started H enc _ => lifted_FnExactIsRunOrder os started H enc)
end Go.Proofs.YtkjodhljaehkjaaGreat
