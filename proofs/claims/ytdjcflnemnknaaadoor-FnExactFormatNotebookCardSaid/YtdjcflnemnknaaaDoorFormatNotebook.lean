/-
  The program's FormatNotebook returns what the reference's returns, for all arguments. No condition.
-/
import Derived.Test.YtdjcflnemnknaaaDoorFin
import Derived.Test.YtdjcflnemnknaaaDoorSz
import Derived.Test.YtdjcflnemnknaaaDoorTo
import Derived.Test.YtdjcflnemnknaaaDoorEq
import Derived.Test.YtdjcflnemnknaaaDoorFmtNb
import Derived.Test.YtdjcflnemnknaaaDoorCards
import Derived.Test.YtdjcflnemnknaaaDoorTie
import Derived.Test.YtdjcflnemnknaaaDoorLaidD
import Derived.SevenTiedAt
import Derived.Stop.Joined
namespace Go.Proofs.YtdjcflnemnknaaaDoor
open Go.RowKit
set_option linter.unusedSimpArgs false
set_option linter.unusedVariables false


set_option maxRecDepth 40000 in
set_option maxHeartbeats 100000000 in
theorem law_FnExactFormatNotebook (x0 : GNb) (fx0 : List Nat) (cx0 : List Value) (w : World) (hx0 : R w x0.toD fx0 cx0) (wx0 : x0.toD.wf) (T0 : TabP w) :
    Calls Tryd.prog 4 #[.agg cx0.toArray] w (TruePost w) := by
  obtain ⟨u0_0, g0_0, rfl, rfl, hU0_0⟩ := GNb.opened.1 hx0
  obtain ⟨A0_0, d0_0, rfl, hqa, hqb⟩ := hU0_0.formT
  clear hqa hqb hU0_0
  go_enter Tryd.func4, Tryd.ntmps4
  go_wp2_with fail
  refine (x0.szSaid _ _ _ _ (hx0.below ((Below.refl _ _).alloc (Nat.le_refl _) _)) wx0 (by omega) (by omega)).mono ?_
  rintro e w1 ⟨r1, rfl, hr1, hqa, hqb, hb1⟩
  obtain ⟨rw1_0, hz1, L1⟩ := rows1 hb1
  have G1 : Below w.heap.size w w1 := L1
  have kc1_0 := rw1_0.cell
  clear L1 hb1 hz1
  go_wp2_with fail
  · go_ret
    exact ⟨rfl, G1⟩
  have hw0 : x0.toD.wt ≤ 1048576 := by have := hr1.le (by omega); omega
  have hsc := smallC_of (l := x0.cells) (by have := hw0; simp only [GNb.toD_eq, D.wt, D.wts] at this; omega)
  clear hr1
  refine (x0.toSaid _ _ _ ((hx0.below G1)) hw0).mono ?_
  rintro e w2 ⟨f2, cc2, rfl, S2, F2, hb2⟩
  obtain ⟨u_t10, g_t10, hqf, rfl, hU_t10⟩ := GNb.opened.1 S2
  clear hqf
  obtain ⟨A_t10, d_t10, rfl, hqa, hqb⟩ := hU_t10.formT
  clear hqa hqb hU_t10
  have L2 : Below w1.heap.size w1 w2 := hb2
  have rr2_0 := rw1_0.below L2
  have F2b := F2.mono (base' := w1.heap.size) (Nat.le_refl _)
  have G2 : Below w.heap.size w w2 := G1.trans (L2.mono G1.size)
  have F2c := F2b.mono (base' := w.heap.size) (G1.size)
  have kc2_0 := rr2_0.cell
  clear rw1_0 G1 F2 F2b kc1_0 L2 hb2
  go_wp2_with fail
  refine (formatNotebook_spec_law x0 wx0.1 hsc _ _ _ (S2) (tab_stay T0 G2)).mono ?_
  rintro e w3 ⟨rfl, hb3⟩
  have L3 : Below w2.heap.size w2 w3 := hb3
  have rr3_0 := rr2_0.below L3
  have G3 : Below w.heap.size w w3 := G2.trans (L3.mono G2.size)
  have kc3_0 := rr3_0.cell
  clear rr2_0 G2 kc2_0 L3 hb3
  go_wp2_with fail
  refine (x0.toSaid _ _ _ ((hx0.below G3)) hw0).mono ?_
  rintro e w4 ⟨f4, cc4, rfl, S4, F4, hb4⟩
  obtain ⟨u_x00, g_x00, hqf, rfl, hU_x00⟩ := GNb.opened.1 S4
  clear hqf
  obtain ⟨A_x00, d_x00, rfl, hqa, hqb⟩ := hU_x00.formT
  clear hqa hqb hU_x00
  have L4 : Below w3.heap.size w3 w4 := hb4
  have rr4_0 := rr3_0.below L4
  have F4b := F4.mono (base' := w3.heap.size) (Nat.le_refl _)
  have G4 : Below w.heap.size w w4 := G3.trans (L4.mono G3.size)
  have F4c := F4b.mono (base' := w.heap.size) (G3.size)
  have kc4_0 := rr4_0.cell
  have kj4_0 := fun o => (rr4_0.below ((Below.refl w4.heap.size w4).alloc (Nat.le_refl _) o)).cell
  clear rr3_0 G3 F4 F4b kc3_0 L4 hb4
  go_wp2_with fail
  refine (formatNotebook_impl_law x0 wx0.1 hsc _ _ _ (S4.below ((Below.refl _ _).alloc (Nat.le_refl _) _)) (tab_stay T0 (G4.alloc (by have := G4.size; simp; omega) _))).mono ?_
  rintro e w5 ⟨rfl, hb5⟩
  obtain ⟨rw5_0, hz5, L5⟩ := rows1 hb5
  have rr5_0 := rr4_0.below L5
  have G5 : Below w.heap.size w w5 := G4.trans (L5.mono G4.size)
  have S5_x0 := S4.below L5
  have F5_x0 := F4c.below (R.lt S4) L5
  have kc5_0 := rr5_0.cell
  have kc5_1 := rw5_0.cell
  clear rr4_0 G4 S4 F4c kc4_0 kj4_0 L5 hb5 hz5
  go_wp2_with fail
  have tok1 : True := trivial
  have tok2 : True := trivial
  go_region_held3 (fun w' => w'.cell? ⟨w.heap.size, 0, none⟩ = some (.slice A0_0 x0.cells.length d0_0) ∧ w'.cell? ⟨w4.heap.size, 0, none⟩ = some (.slice A_x00 (x0).cells.length d_x00)) (go_keep)
    (first
    | (go_at_call 15; have _t := tok1; refine (x0.toSaid _ _ _ ((hx0.below G5).below (Below.refl _ _).drew) hw0).mono ?_; rintro e w6 ⟨f6, cc6, rfl, S6, F6, hb6⟩; obtain ⟨u_t30, g_t30, hqf, rfl, hU_t30⟩ := GNb.opened.1 S6; clear hqf; obtain ⟨A_t30, d_t30, rfl, hqa, hqb⟩ := hU_t30.formT; clear hqa hqb hU_t30; have hb6 := (Below.refl _ _).drew.trans hb6; have L6 : Below w5.heap.size w5 w6 := hb6; have rr6_0 := rr5_0.below L6; have rr6_1 := rw5_0.below L6; have F6b := F6.mono (base' := w5.heap.size) (Nat.le_refl _); have G6 : Below w.heap.size w w6 := G5.trans (L6.mono G5.size); have F6c := F6b.mono (base' := w.heap.size) (G5.size); have S6_x0 := S5_x0.below L6; have F6_x0 := F5_x0.below (R.lt S5_x0) L6; have kc6_0 := rr6_0.cell; have kc6_1 := rr6_1.cell; clear rr5_0 rw5_0 G5 F6 F6b S5_x0 F5_x0 kc5_0 kc5_1 L6 hb6; clear tok1)
    | (go_at_call 17; have _t := tok2; refine (GNb.eqSaid (x0) _ _ _ _ _ (S6_x0) (S6)).mono ?_; rintro e w7 ⟨rfl, hb7⟩; have L7 : Below w6.heap.size w6 w7 := hb7; have rr7_0 := rr6_0.below L7; have rr7_1 := rr6_1.below L7; have G7 : Below w.heap.size w w7 := G6.trans (L7.mono G6.size); have S7_x0 := S6_x0.below L7; have F7_x0 := F6_x0.below (R.lt S6_x0) L7; have kc7_0 := rr7_0.cell; have kc7_1 := rr7_1.cell; clear rr6_0 rr6_1 G6 S6_x0 F6_x0 kc6_0 kc6_1 L7 hb7; clear tok2))
  go_wp2_with fail
  go_ret
  exact ⟨rfl, G7⟩

open Go.ChangeShapes Go.WideShapes Go.ChangeAt
set_option maxRecDepth 100000 in
theorem lifted_FnExactFormatNotebook (os : Os) (started : os.Started) (H : Type) (enc : TypeId × Value → H) :
    ReturnsInHanded {} Tryd.checked os 4 .any (fun w args => (Rows.fnExactFormatNotebookSpec.pre enc Tryd.prog Tryd.f4 [] false w args ∧ laidMetH Tryd.prog laidF w) ∧ sizedMet enc Tryd.prog Tryd.f4 (OpenSpec.ofChange Rows.fnExactFormatNotebookSpec) false w args) (Rows.fnExactFormatNotebookSpec.post enc Tryd.prog Tryd.f4 false true false false) := by
  refine returnsInHanded_of_change_and (C := Tryd.checked) (X := fun w _ => laidMetH Tryd.prog laidF w) (fun _ _ _ hh h => h.of_heap hh) own_ started (by kernel_rfl) Tryd.func4
    (ChangeSpec.witness_shaped (enc := enc) (C := Tryd.checked) (os := os) (X := fun w _ => laidMetH Tryd.prog laidF w) false (World.doorLaid Tryd.prog 2000 os) #[.agg #[.slice none 0 0]] 8 rfl (door_shaped os _) (by kernel_rfl) (by kernel_rfl) (by kernel_rfl) (door_met os _)) ?_
  intro W base args ds gs before hval0 hW hcnd _ hL _
  have T0 : TabP W := tab_of_laid hL
  have hval : ∀ (j : Nat) t v, Tryd.f4.params[j]? = some t → args[j]? = some v → Value.okWide Tryd.prog W .any base t v := hval0
  have hW' := hW
  obtain ⟨p, q, hA0, hV, rfl, hfz, hnd⟩ := hW
  have hA : DataW.TrodAll enc Tryd.prog W 0 (fun _ => true) true Tryd.f4.params.toList args.toList ds p := hA0
  rw [Tryd.params4] at hA hval
  obtain ⟨v0, vs0, d0, ds0, p0, q0, ha0, rfl, rfl, h0, r0⟩ := trodAll_cons hA
  obtain ⟨rfl, rfl, rfl⟩ := trodAll_nil r0
  obtain rfl : args = #[v0] := by cases args; simp_all
  obtain ⟨rfl, rfl⟩ := trodVars_none hV
  obtain ⟨x0, fx0, cx0, rfl, hx0, wx0⟩ := arg_struct Tryd.underlying31 (hval 0 31 v0 rfl rfl) (fun n => rd_GNb n) h0
  clear hA0 hval0
  have hlt : ∀ z ∈ p0 ++ [], z.block < W.heap.size := fun z hz => hW'.lt z (by simpa using hz)
  refine (law_FnExactFormatNotebook x0 fx0 cx0 W hx0 wx0 T0).mono fun e W' ⟨he, hb⟩ => ?_
  subst he
  exact ⟨_, rfl, post_of_below (pa := p0 ++ []) (pv := []) hW' (fun _ _ _ => trodAll_mk1 (shut_bool Tryd.underlying4 _))
    (fun sp hsp => ⟨_, _, WideElems.Trod_stays laidOut_ (by kernel_rfl) (of_decide_eq_true (by kernel_rfl)) h0 (fun z hz => hb.same (hlt z (List.mem_append_left _ hz))) (fun z hz => hsp z (by simp [hz])), rfl, rfl⟩) (fun _ _ => rfl) (by simp) hb (ok_one (by kernel_rfl) rfl (okWide_bool_mk Tryd.underlying4 _))⟩

theorem said_FnExactFormatNotebook : Rows.FnExactFormatNotebookSaid :=
  OpenClaim.holds_of_wide 4 Tryd.f4 rfl rfl rfl rfl rfl rfl rfl ⟨rfl, rfl, rfl, rfl, rfl⟩ rfl rfl rfl rfl rfl (by kernel_rfl) Tryd.func4 (by kernel_rfl)
    (of_decide_eq_true (by kernel_rfl)) (by unfold Func.isWrapper; first | (rw [if_pos (by decide +kernel)]; kernel_rfl) | (rw [if_neg (by decide +kernel)]; exact ⟨rfl, rfl⟩))
    (fun os started H enc _ => lifted_FnExactFormatNotebook os started H enc)
set_option maxRecDepth 100000 in
theorem proved_FnExactFormatNotebook : Rows.FnExactFormatNotebookCardSaid :=
  Claim7.holds_tied_plain_at .later [] [.data, .data, .data] true (true, "d1f19570623459938fbd0e752fe048a6ac4ae8ad369fa73b706944cdc963572f") true
    said_FnExactFormatNotebook (fun _ h => by cases h) (by kernel_rfl) (fun _ h => by cases h) fnExactFormatNotebook_row_tie rfl ⟨rfl, rfl⟩ (by kernel_rfl) rfl
    (fun f fn hf hfn => by
      obtain rfl : f = 4 := Option.some.inj ((show Tryd.prog.funcNamed "loop.example/g00510/laws.FnExactFormatNotebook" = some 4 by kernel_rfl).symm.trans hf) |>.symm
      obtain rfl : fn = Tryd.f4 := (Option.some.inj (Tryd.func4.symm.trans hfn)).symm
      exact ⟨by kernel_rfl, fun j t ht => by
        rw [Tryd.params4] at ht
        have hm : t ∈ [31] := by simpa using Array.mem_of_getElem? ht
        have hall : ([31].all fun u => !Tryd.prog.wantsStandIn u) = true := by kernel_rfl
        exact (show Tryd.prog.wantsStandIn t = false by simpa using List.all_eq_true.1 hall t hm)⟩)
    (by kernel_rfl)
end Go.Proofs.YtdjcflnemnknaaaDoor
