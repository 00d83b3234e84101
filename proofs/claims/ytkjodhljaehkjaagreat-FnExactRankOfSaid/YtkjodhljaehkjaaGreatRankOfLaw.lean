/-
  The program's RankOf returns what the reference's returns, for all arguments. No condition.
-/
import Derived.Test.YtkjodhljaehkjaaGreatJA
import Derived.Test.YtkjodhljaehkjaaGreatJB
import Derived.Test.YtkjodhljaehkjaaGreatJK
namespace Go.Proofs.YtkjodhljaehkjaaGreat
open Go.RowKit
set_option linter.unusedSimpArgs false
set_option linter.unusedVariables false

set_option maxRecDepth 40000 in
set_option maxHeartbeats 8000000 in
theorem law_FnExactRankOf (l0 : List GPart) (fx0 : List Nat) (v0 : Value) (n1 : Int) (w : World) (hx0 : Sl w (l0.map GPart.toD) fx0 v0) (wx0 : D.wfs (l0.map GPart.toD)) (hx1 : (Lit.int .i64 n1).wf = true) :
    Calls Tryz.prog 8 #[v0, .int .i64 n1] w (TruePost w) := by
  obtain ⟨A0, d0, rfl, hqa, hqb⟩ := hx0.formT
  clear hqa hqb
  go_enter Tryz.func8, Tryz.ntmps8
  go_wp2_with fail
  refine (PartS_szSaid l0 _ _ _ _ (hx0) wx0 (by omega) (by omega)).mono ?_
  rintro e w1 ⟨r1, rfl, hr1, hqa, hqb, hb1⟩
  have L1 : Below w.heap.size w w1 := hb1
  have G1 : Below w.heap.size w w1 := L1
  clear L1 hb1
  go_wp2_with fail
  · go_ret
    exact ⟨rfl, G1⟩
  have hw0 : (l0.map GPart.toD).length + D.wts (l0.map GPart.toD) ≤ 1048576 := by have := hr1.le (by omega); omega
  have hn0 : l0.length ≤ 1048576 := by have := hw0; rw [List.length_map] at this; omega
  have hwm := hw0
  rw [List.length_map] at hwm
  obtain ⟨r0, hr0⟩ : ∃ r : Int, (rankZ l0 n1 : Int) = r := ⟨_, rfl⟩
  clear hr1
  refine (PartS_toSaid l0 _ _ _ ((hx0.below G1)) hw0).mono ?_
  rintro e w2 ⟨f2, vv2, rfl, S2, F2, hb2⟩
  obtain ⟨A_t1, d_t1, rfl, hqa, hqb⟩ := S2.formT
  clear hqa hqb
  have L2 : Below w1.heap.size w1 w2 := hb2
  have F2b := F2.mono (base' := w1.heap.size) (Nat.le_refl _)
  have G2 : Below w.heap.size w w2 := G1.trans (L2.mono G1.size)
  have F2c := F2b.mono (base' := w.heap.size) (G1.size)
  clear G1 F2 F2b L2 hb2
  go_wp2_with fail
  refine (rankOf_spec l0 n1 r0 hr0 hx1 _ _ _ (S2) hwm).mono ?_
  rintro e w3 ⟨rfl, hb3⟩
  have L3 : Below w2.heap.size w2 w3 := hb3
  have G3 : Below w.heap.size w w3 := G2.trans (L3.mono G2.size)
  clear G2 L3 hb3
  go_wp2_with fail
  refine (PartS_toSaid l0 _ _ _ ((hx0.below G3)) hw0).mono ?_
  rintro e w4 ⟨f4, vv4, rfl, S4, F4, hb4⟩
  obtain ⟨A_x0, d_x0, rfl, hqa, hqb⟩ := S4.formT
  clear hqa hqb
  have L4 : Below w3.heap.size w3 w4 := hb4
  have F4b := F4.mono (base' := w3.heap.size) (Nat.le_refl _)
  have G4 : Below w.heap.size w w4 := G3.trans (L4.mono G3.size)
  have F4c := F4b.mono (base' := w.heap.size) (G3.size)
  clear G3 F4 F4b L4 hb4
  go_wp2_with fail
  refine (rankOf_impl l0 n1 r0 hr0 hx1 _ _ _ (S4) hwm).mono ?_
  rintro e w5 ⟨rfl, hb5⟩
  have L5 : Below w4.heap.size w4 w5 := hb5
  have G5 : Below w.heap.size w w5 := G4.trans (L5.mono G4.size)
  have S5_x0 := S4.below L5
  have F5_x0 := F4c.below (R.lt S4) L5
  clear G4 S4 F4c L5 hb5
  go_wp2_with fail
  refine (PartS_toSaid l0 _ _ _ ((hx0.below G5)) hw0).mono ?_
  rintro e w6 ⟨f6, vv6, rfl, S6, F6, hb6⟩
  obtain ⟨A_t3, d_t3, rfl, hqa, hqb⟩ := S6.formT
  clear hqa hqb
  have L6 : Below w5.heap.size w5 w6 := hb6
  have F6b := F6.mono (base' := w5.heap.size) (Nat.le_refl _)
  have G6 : Below w.heap.size w w6 := G5.trans (L6.mono G5.size)
  have F6c := F6b.mono (base' := w.heap.size) (G5.size)
  have S6_x0 := S5_x0.below L6
  have F6_x0 := F5_x0.below (R.lt S5_x0) L6
  clear G5 F6 F6b S5_x0 F5_x0 L6 hb6
  go_wp2_with fail
  refine (PartS_eqSaid (l0) _ _ _ _ _ (S6_x0) (S6)).mono ?_
  rintro e w7 ⟨rfl, hb7⟩
  have L7 : Below w6.heap.size w6 w7 := hb7
  have G7 : Below w.heap.size w w7 := G6.trans (L7.mono G6.size)
  have S7_x0 := S6_x0.below L7
  have F7_x0 := F6_x0.below (R.lt S6_x0) L7
  clear G6 S6_x0 F6_x0 L7 hb7
  go_wp2_with fail
  go_ret
  exact ⟨rfl, G7⟩

open Go.ChangeShapes Go.WideShapes Go.ChangeAt
set_option maxRecDepth 100000 in
theorem lifted_FnExactRankOf (os : Os) (started : os.Started) (H : Type) (enc : TypeId × Value → H) :
    ReturnsInHanded {} Tryz.checked os 8 .any (Rows.fnExactRankOfSpec.pre6 enc Tryz.prog Tryz.f8 Rows.fnExactRankOfRow.domain false) (Rows.fnExactRankOfSpec.post enc Tryz.prog Tryz.f8 false true false false) := by
  refine returnsInHanded_of_change (C := Tryz.checked) own_ started (by kernel_rfl) Tryz.func8
    (ChangeSpec.witness6 (enc := enc) (C := Tryz.checked) false ⟨#[], #[.slice none 0 0, .int .i64 0], []⟩ 8 (by kernel_rfl) (by kernel_rfl) (by kernel_rfl) (by kernel_rfl)) ?_
  intro W base args ds gs before hval0 hW hcnd _
  have hval : ∀ (j : Nat) t v, Tryz.f8.params[j]? = some t → args[j]? = some v → Value.okWide Tryz.prog W .any base t v := hval0
  have hW' := hW
  obtain ⟨p, q, hA0, hV, rfl, hfz, hnd⟩ := hW
  have hA : DataW.TrodAll enc Tryz.prog W 0 (fun _ => true) true Tryz.f8.params.toList args.toList ds p := hA0
  rw [Tryz.params8] at hA hval
  obtain ⟨v0, vs0, d0, ds0, p0, q0, ha0, rfl, rfl, h0, r0⟩ := trodAll_cons hA
  obtain ⟨v1, vs1, d1, ds1, p1, q1, ha1, rfl, rfl, h1, r1⟩ := trodAll_cons r0
  obtain ⟨rfl, rfl, rfl⟩ := trodAll_nil r1
  subst ha1
  obtain rfl : args = #[v0, v1] := by cases args; simp_all
  obtain ⟨rfl, rfl⟩ := trodVars_none hV
  obtain ⟨x0, fx0, hx0, wx0⟩ := arg_slice Tryz.underlying22 (hval 0 22 v0 rfl rfl) (fun n => rd_SGPart n) h0
  obtain ⟨x1, rfl, hx1⟩ := arg_int Tryz.underlying3 (hval 1 3 v1 rfl rfl) h1
  clear hA0 hval0
  have hlt : ∀ z ∈ p0 ++ (p1 ++ []), z.block < W.heap.size := fun z hz => hW'.lt z (by simpa using hz)
  refine (law_FnExactRankOf x0 fx0 _ x1 W hx0 wx0 hx1).mono fun e W' ⟨he, hb⟩ => ?_
  subst he
  exact ⟨_, rfl, post_of_below (pa := p0 ++ (p1 ++ [])) (pv := []) hW' (fun _ _ _ => trodAll_mk1 (shut_bool Tryz.underlying4 _))
    (fun sp hsp => ⟨_, _, WideElems.Trod_stays laidOut_ (by kernel_rfl) (of_decide_eq_true (by kernel_rfl)) h0 (fun z hz => hb.same (hlt z (List.mem_append_left _ hz))) (fun z hz => hsp z (by simp [hz])), ⟨_, _, WideElems.Trod_stays laidOut_ (by kernel_rfl) (of_decide_eq_true (by kernel_rfl)) h1 (fun z hz => hb.same (hlt z (List.mem_append_right _ (List.mem_append_left _ hz)))) (fun z hz => hsp z (by simp [hz])), rfl, rfl⟩, rfl⟩) (fun _ _ => rfl) (by simp) hb (ok_one (by kernel_rfl) rfl (okWide_bool_mk Tryz.underlying4 _))⟩

theorem proved_FnExactRankOf : Rows.FnExactRankOfSaid :=
  OpenClaim.holds_of_wide 8 Tryz.f8 rfl rfl rfl rfl rfl rfl rfl ⟨rfl, rfl, rfl, rfl, rfl⟩ rfl rfl rfl rfl rfl (by kernel_rfl) Tryz.func8 (by kernel_rfl)
    (of_decide_eq_true (by kernel_rfl)) (by unfold Func.isWrapper; first | (rw [if_pos (by decide +kernel)]; kernel_rfl) | (rw [if_neg (by decide +kernel)]; exact ⟨rfl, rfl⟩))
    (fun os started H enc _ => lifted_FnExactRankOf os started H enc)
end Go.Proofs.YtkjodhljaehkjaaGreat
