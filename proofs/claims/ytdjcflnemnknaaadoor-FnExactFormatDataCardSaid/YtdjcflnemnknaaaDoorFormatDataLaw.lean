/-
  The program's FormatData returns what the reference's returns, for all arguments. No condition.
-/
import Derived.Test.YtdjcflnemnknaaaDoorFin
import Derived.Test.YtdjcflnemnknaaaDoorSz
import Derived.Test.YtdjcflnemnknaaaDoorTo
import Derived.Test.YtdjcflnemnknaaaDoorEq
import Derived.Test.YtdjcflnemnknaaaDoorFData
import Derived.Test.YtdjcflnemnknaaaDoorCards
import Derived.Test.YtdjcflnemnknaaaDoorTie
import Derived.Test.YtdjcflnemnknaaaDoorLaidD
import Derived.SevenTiedAt
import Derived.Stop.Joined
namespace Go.Proofs.YtdjcflnemnknaaaDoor
open Go.RowKit
set_option linter.unusedSimpArgs false
set_option linter.unusedVariables false


set_option maxRecDepth 40000 in
set_option maxHeartbeats 100000000 in
theorem law_FnExactFormatData (x0 : GVal) (fx0 : List Nat) (cx0 : List Value) (w : World) (hx0 : R w x0.toD fx0 cx0) (wx0 : x0.toD.wf) (T0 : TabP w) :
    Calls Tryd.prog 5 #[.agg cx0.toArray] w (TruePost w) := by
  obtain ⟨u0_0, u0_1, u0_2, g0_0, g0_1, g0_2, rfl, rfl, hU0_0, hU0_1, hU0_2⟩ := GVal.opened.1 hx0
  obtain ⟨A0_0, d0_0, rfl, hqa, hqb⟩ := hU0_0.formT
  clear hqa hqb hU0_0
  obtain ⟨A0_1, d0_1, rfl, hqa, hqb⟩ := hU0_1.formT
  clear hqa hqb hU0_1
  obtain ⟨A0_2, d0_2, rfl, hqa, hqb⟩ := hU0_2.formT
  clear hqa hqb hU0_2
  go_enter Tryd.func5, Tryd.ntmps5
  go_wp2_with fail
  refine (x0.szSaid _ _ _ _ (hx0.below ((Below.refl _ _).alloc (Nat.le_refl _) _)) wx0 (by omega) (by omega)).mono ?_
  rintro e w1 ⟨r1, rfl, hr1, hqa, hqb, hb1⟩
  obtain ⟨rw1_0, hz1, L1⟩ := rows1 hb1
  have G1 : Below w.heap.size w w1 := L1
  have kc1_0 := rw1_0.cell
  clear L1 hb1 hz1
  go_wp2_with fail
  · go_ret
    exact ⟨rfl, G1⟩
  have hw0 : x0.toD.wt ≤ 1048576 := by have := hr1.le (by omega); omega
  have hsm := small_of (x := x0) hw0 wx0
  clear hr1
  refine (x0.toSaid _ _ _ ((hx0.below G1)) hw0).mono ?_
  rintro e w2 ⟨f2, cc2, rfl, S2, F2, hb2⟩
  obtain ⟨u_t10, u_t11, u_t12, g_t10, g_t11, g_t12, hqf, rfl, hU_t10, hU_t11, hU_t12⟩ := GVal.opened.1 S2
  clear hqf
  obtain ⟨A_t10, d_t10, rfl, hqa, hqb⟩ := hU_t10.formT
  clear hqa hqb hU_t10
  obtain ⟨A_t11, d_t11, rfl, hqa, hqb⟩ := hU_t11.formT
  clear hqa hqb hU_t11
  obtain ⟨A_t12, d_t12, rfl, hqa, hqb⟩ := hU_t12.formT
  clear hqa hqb hU_t12
  have L2 : Below w1.heap.size w1 w2 := hb2
  have rr2_0 := rw1_0.below L2
  have F2b := F2.mono (base' := w1.heap.size) (Nat.le_refl _)
  have G2 : Below w.heap.size w w2 := G1.trans (L2.mono G1.size)
  have F2c := F2b.mono (base' := w.heap.size) (G1.size)
  have kc2_0 := rr2_0.cell
  clear rw1_0 G1 F2 F2b kc1_0 L2 hb2
  go_wp2_with fail
  refine (formatData_spec_law x0 hsm.1 hsm.2 _ _ _ (S2) (tab_stay T0 G2)).mono ?_
  rintro e w3 ⟨rfl, hb3⟩
  have L3 : Below w2.heap.size w2 w3 := hb3
  have rr3_0 := rr2_0.below L3
  have G3 : Below w.heap.size w w3 := G2.trans (L3.mono G2.size)
  have kc3_0 := rr3_0.cell
  clear rr2_0 G2 kc2_0 L3 hb3
  go_wp2_with fail
  refine (x0.toSaid _ _ _ ((hx0.below G3)) hw0).mono ?_
  rintro e w4 ⟨f4, cc4, rfl, S4, F4, hb4⟩
  obtain ⟨u_x00, u_x01, u_x02, g_x00, g_x01, g_x02, hqf, rfl, hU_x00, hU_x01, hU_x02⟩ := GVal.opened.1 S4
  clear hqf
  obtain ⟨A_x00, d_x00, rfl, hqa, hqb⟩ := hU_x00.formT
  clear hqa hqb hU_x00
  obtain ⟨A_x01, d_x01, rfl, hqa, hqb⟩ := hU_x01.formT
  clear hqa hqb hU_x01
  obtain ⟨A_x02, d_x02, rfl, hqa, hqb⟩ := hU_x02.formT
  clear hqa hqb hU_x02
  have L4 : Below w3.heap.size w3 w4 := hb4
  have rr4_0 := rr3_0.below L4
  have F4b := F4.mono (base' := w3.heap.size) (Nat.le_refl _)
  have G4 : Below w.heap.size w w4 := G3.trans (L4.mono G3.size)
  have F4c := F4b.mono (base' := w.heap.size) (G3.size)
  have kc4_0 := rr4_0.cell
  have kj4_0 := fun o => (rr4_0.below ((Below.refl w4.heap.size w4).alloc (Nat.le_refl _) o)).cell
  clear rr3_0 G3 F4 F4b kc3_0 L4 hb4
  go_wp2_with fail
  refine (formatData_impl_law x0 hsm.1 hsm.2 _ _ _ (S4.below ((Below.refl _ _).alloc (Nat.le_refl _) _)) (tab_stay T0 (G4.alloc (by have := G4.size; simp; omega) _))).mono ?_
  rintro e w5 ⟨rfl, hb5⟩
  obtain ⟨rw5_0, hz5, L5⟩ := rows1 hb5
  have rr5_0 := rr4_0.below L5
  have G5 : Below w.heap.size w w5 := G4.trans (L5.mono G4.size)
  have S5_x0 := S4.below L5
  have F5_x0 := F4c.below (R.lt S4) L5
  have kc5_0 := rr5_0.cell
  have kc5_1 := rw5_0.cell
  clear rr4_0 G4 S4 F4c kc4_0 kj4_0 L5 hb5 hz5
  go_wp2_with fail
  have tok1 : True := trivial
  have tok2 : True := trivial
  go_region_held3 (fun w' => w'.cell? ⟨w.heap.size, 0, none⟩ = some (.int .i64 x0.kind) ∧ w'.cell? ⟨w.heap.size, 1, none⟩ = some (.int .i64 x0.n) ∧ w'.cell? ⟨w.heap.size, 2, none⟩ = some (.int .i64 x0.step) ∧ w'.cell? ⟨w.heap.size, 3, none⟩ = some (.string x0.text) ∧ w'.cell? ⟨w.heap.size, 4, none⟩ = some (.slice A0_0 x0.list.length d0_0) ∧ w'.cell? ⟨w.heap.size, 5, none⟩ = some (.slice A0_1 x0.cols.length d0_1) ∧ w'.cell? ⟨w.heap.size, 6, none⟩ = some (.slice A0_2 x0.rows.length d0_2) ∧ w'.cell? ⟨w4.heap.size, 0, none⟩ = some (.int .i64 (x0).kind) ∧ w'.cell? ⟨w4.heap.size, 1, none⟩ = some (.int .i64 (x0).n) ∧ w'.cell? ⟨w4.heap.size, 2, none⟩ = some (.int .i64 (x0).step) ∧ w'.cell? ⟨w4.heap.size, 3, none⟩ = some (.string (x0).text) ∧ w'.cell? ⟨w4.heap.size, 4, none⟩ = some (.slice A_x00 (x0).list.length d_x00) ∧ w'.cell? ⟨w4.heap.size, 5, none⟩ = some (.slice A_x01 (x0).cols.length d_x01) ∧ w'.cell? ⟨w4.heap.size, 6, none⟩ = some (.slice A_x02 (x0).rows.length d_x02)) (go_keep)
    (first
    | (go_at_call 20; have _t := tok1; refine (x0.toSaid _ _ _ ((hx0.below G5).below (Below.refl _ _).drew) hw0).mono ?_; rintro e w6 ⟨f6, cc6, rfl, S6, F6, hb6⟩; obtain ⟨u_t30, u_t31, u_t32, g_t30, g_t31, g_t32, hqf, rfl, hU_t30, hU_t31, hU_t32⟩ := GVal.opened.1 S6; clear hqf; obtain ⟨A_t30, d_t30, rfl, hqa, hqb⟩ := hU_t30.formT; clear hqa hqb hU_t30; obtain ⟨A_t31, d_t31, rfl, hqa, hqb⟩ := hU_t31.formT; clear hqa hqb hU_t31; obtain ⟨A_t32, d_t32, rfl, hqa, hqb⟩ := hU_t32.formT; clear hqa hqb hU_t32; have hb6 := (Below.refl _ _).drew.trans hb6; have L6 : Below w5.heap.size w5 w6 := hb6; have rr6_0 := rr5_0.below L6; have rr6_1 := rw5_0.below L6; have F6b := F6.mono (base' := w5.heap.size) (Nat.le_refl _); have G6 : Below w.heap.size w w6 := G5.trans (L6.mono G5.size); have F6c := F6b.mono (base' := w.heap.size) (G5.size); have S6_x0 := S5_x0.below L6; have F6_x0 := F5_x0.below (R.lt S5_x0) L6; have kc6_0 := rr6_0.cell; have kc6_1 := rr6_1.cell; clear rr5_0 rw5_0 G5 F6 F6b S5_x0 F5_x0 kc5_0 kc5_1 L6 hb6; clear tok1)
    | (go_at_call 22; have _t := tok2; refine (GVal.eqSaid (x0) _ _ _ _ _ (S6_x0) (S6)).mono ?_; rintro e w7 ⟨rfl, hb7⟩; have L7 : Below w6.heap.size w6 w7 := hb7; have rr7_0 := rr6_0.below L7; have rr7_1 := rr6_1.below L7; have G7 : Below w.heap.size w w7 := G6.trans (L7.mono G6.size); have S7_x0 := S6_x0.below L7; have F7_x0 := F6_x0.below (R.lt S6_x0) L7; have kc7_0 := rr7_0.cell; have kc7_1 := rr7_1.cell; clear rr6_0 rr6_1 G6 S6_x0 F6_x0 kc6_0 kc6_1 L7 hb7; clear tok2))
  go_wp2_with fail
  go_ret
  exact ⟨rfl, G7⟩

open Go.ChangeShapes Go.WideShapes Go.ChangeAt
set_option maxRecDepth 100000 in
theorem lifted_FnExactFormatData (os : Os) (started : os.Started) (H : Type) (enc : TypeId × Value → H) :
    ReturnsInHanded {} Tryd.checked os 5 .any (fun w args => (Rows.fnExactFormatDataSpec.pre enc Tryd.prog Tryd.f5 [] false w args ∧ laidMetH Tryd.prog laidF w) ∧ sizedMet enc Tryd.prog Tryd.f5 (OpenSpec.ofChange Rows.fnExactFormatDataSpec) false w args) (Rows.fnExactFormatDataSpec.post enc Tryd.prog Tryd.f5 false true false false) := by
  refine returnsInHanded_of_change_and (C := Tryd.checked) (X := fun w _ => laidMetH Tryd.prog laidF w) (fun _ _ _ hh h => h.of_heap hh) own_ started (by kernel_rfl) Tryd.func5
    (ChangeSpec.witness_shaped (enc := enc) (C := Tryd.checked) (os := os) (X := fun w _ => laidMetH Tryd.prog laidF w) false (World.doorLaid Tryd.prog 2000 os) #[.agg #[.int .i64 0, .int .i64 0, .int .i64 0, .string .empty, .slice none 0 0, .slice none 0 0, .slice none 0 0]] 8 rfl (door_shaped os _) (by kernel_rfl) (by kernel_rfl) (by kernel_rfl) (door_met os _)) ?_
  intro W base args ds gs before hval0 hW hcnd _ hL _
  have T0 : TabP W := tab_of_laid hL
  have hval : ∀ (j : Nat) t v, Tryd.f5.params[j]? = some t → args[j]? = some v → Value.okWide Tryd.prog W .any base t v := hval0
  have hW' := hW
  obtain ⟨p, q, hA0, hV, rfl, hfz, hnd⟩ := hW
  have hA : DataW.TrodAll enc Tryd.prog W 0 (fun _ => true) true Tryd.f5.params.toList args.toList ds p := hA0
  rw [Tryd.params5] at hA hval
  obtain ⟨v0, vs0, d0, ds0, p0, q0, ha0, rfl, rfl, h0, r0⟩ := trodAll_cons hA
  obtain ⟨rfl, rfl, rfl⟩ := trodAll_nil r0
  obtain rfl : args = #[v0] := by cases args; simp_all
  obtain ⟨rfl, rfl⟩ := trodVars_none hV
  obtain ⟨x0, fx0, cx0, rfl, hx0, wx0⟩ := arg_struct Tryd.underlying44 (hval 0 44 v0 rfl rfl) (fun n => rd_GVal n) h0
  clear hA0 hval0
  have hlt : ∀ z ∈ p0 ++ [], z.block < W.heap.size := fun z hz => hW'.lt z (by simpa using hz)
  refine (law_FnExactFormatData x0 fx0 cx0 W hx0 wx0 T0).mono fun e W' ⟨he, hb⟩ => ?_
  subst he
  exact ⟨_, rfl, post_of_below (pa := p0 ++ []) (pv := []) hW' (fun _ _ _ => trodAll_mk1 (shut_bool Tryd.underlying4 _))
    (fun sp hsp => ⟨_, _, WideElems.Trod_stays laidOut_ (by kernel_rfl) (of_decide_eq_true (by kernel_rfl)) h0 (fun z hz => hb.same (hlt z (List.mem_append_left _ hz))) (fun z hz => hsp z (by simp [hz])), rfl, rfl⟩) (fun _ _ => rfl) (by simp) hb (ok_one (by kernel_rfl) rfl (okWide_bool_mk Tryd.underlying4 _))⟩

theorem said_FnExactFormatData : Rows.FnExactFormatDataSaid :=
  OpenClaim.holds_of_wide 5 Tryd.f5 rfl rfl rfl rfl rfl rfl rfl ⟨rfl, rfl, rfl, rfl, rfl⟩ rfl rfl rfl rfl rfl (by kernel_rfl) Tryd.func5 (by kernel_rfl)
    (of_decide_eq_true (by kernel_rfl)) (by unfold Func.isWrapper; first | (rw [if_pos (by decide +kernel)]; kernel_rfl) | (rw [if_neg (by decide +kernel)]; exact ⟨rfl, rfl⟩))
    (fun os started H enc _ => lifted_FnExactFormatData os started H enc)
set_option maxRecDepth 100000 in
theorem proved_FnExactFormatData : Rows.FnExactFormatDataCardSaid :=
  Claim7.holds_tied_plain_at .later [] [.data, .data, .data] true (true, "d1f19570623459938fbd0e752fe048a6ac4ae8ad369fa73b706944cdc963572f") true
    said_FnExactFormatData (fun _ h => by cases h) (by kernel_rfl) (fun _ h => by cases h) fnExactFormatData_row_tie rfl ⟨rfl, rfl⟩ (by kernel_rfl) rfl
    (fun f fn hf hfn => by
      obtain rfl : f = 5 := Option.some.inj ((show Tryd.prog.funcNamed "loop.example/g00510/laws.FnExactFormatData" = some 5 by kernel_rfl).symm.trans hf) |>.symm
      obtain rfl : fn = Tryd.f5 := (Option.some.inj (Tryd.func5.symm.trans hfn)).symm
      exact ⟨by kernel_rfl, fun j t ht => by
        rw [Tryd.params5] at ht
        have hm : t ∈ [44] := by simpa using Array.mem_of_getElem? ht
        have hall : ([44].all fun u => !Tryd.prog.wantsStandIn u) = true := by kernel_rfl
        exact (show Tryd.prog.wantsStandIn t = false by simpa using List.all_eq_true.1 hall t hm)⟩)
    (by kernel_rfl)
end Go.Proofs.YtdjcflnemnknaaaDoor
