/-
  The program's ParseCell returns what the reference's returns, for all arguments. No condition.
-/
import Derived.Test.YtdjcflnemnknaaaDoorJA
import Derived.Test.YtdjcflnemnknaaaDoorJB
import Derived.Test.YtdjcflnemnknaaaDoorJD
import Derived.Test.YtdjcflnemnknaaaDoorJV
import Derived.Test.YtdjcflnemnknaaaDoorCards
import Derived.Test.YtdjcflnemnknaaaDoorTie
import Derived.Test.YtdjcflnemnknaaaDoorLaidP
import Derived.SevenTiedAt
import Derived.Stop.Joined
namespace Go.Proofs.YtdjcflnemnknaaaDoor
open Go.RowKit
set_option linter.unusedSimpArgs false
set_option linter.unusedVariables false


set_option maxRecDepth 40000 in
set_option maxHeartbeats 100000000 in
theorem law_FnExactParseCell (s0 : ByteArray) (w : World) (hx0 : s0.size ≤ maxLen) (T0 : TabP w) :
    Calls Tryd.prog 6 #[.string s0] w (TruePost w) := by
  have hsx0 : s0.size ≤ 9223372036854775807 := by unfold maxLen at hx0; omega
  go_enter Tryd.func6, Tryd.ntmps6
  go_wp2_with fail
  · go_ret
    exact ⟨rfl, (Below.refl _ _)⟩
  have hs0 : s0.size ≤ 1048576 := by omega
  refine (parseCell_spec_law s0 hs0 _ (tab_stay T0 (Below.refl _ _))).mono ?_
  rintro e w1 ⟨f1_0, vv1_0, rfl, S1_0, F1_0, hb1⟩
  obtain ⟨hqf, rfl⟩ := GCell.opened.1 S1_0
  clear hqf
  have L1 : Below w.heap.size w w1 := hb1
  have F1_0b := F1_0.mono (base' := w.heap.size) (Nat.le_refl _)
  have G1 : Below w.heap.size w w1 := L1
  have F1_0c := F1_0b.mono (base' := w.heap.size) (Nat.le_refl _)
  clear F1_0 F1_0b L1 hb1
  go_wp2_with fail
  refine (parseCell_impl_law s0 hs0 _ (tab_stay T0 (G1.alloc (by have := G1.size; simp; omega) _))).mono ?_
  rintro e w2 ⟨f2_0, vv2_0, rfl, S2_0, F2_0, hb2⟩
  obtain ⟨hqf, rfl⟩ := GCell.opened.1 S2_0
  clear hqf
  obtain ⟨rw2_0, hz2, L2⟩ := rows1 hb2
  have F2_0b := F2_0.mono (base' := w1.heap.size) (by simp; try omega)
  have G2 : Below w.heap.size w w2 := G1.trans (L2.mono G1.size)
  have F2_0c := F2_0b.mono (base' := w.heap.size) (G1.size)
  have S2_w0 := S1_0.below L2
  have F2_w0 := F1_0c.below (R.lt S1_0) L2
  have kc2_0 := rw2_0.cell
  have kj2_0 := fun o => (rw2_0.below ((Below.refl w2.heap.size w2).alloc (Nat.le_refl _) o)).cell
  clear G1 F2_0 F2_0b S1_0 F1_0c L2 hb2 hz2
  go_wp2_with fail
  refine (GCell.eqSaid ((parseC s0).1) _ _ _ _ _ (S2_0.below ((Below.refl _ _).alloc (Nat.le_refl _) _)) (S2_w0.below ((Below.refl _ _).alloc (Nat.le_refl _) _))).mono ?_
  rintro e w3 ⟨rfl, hb3⟩
  obtain ⟨rw3_0, hz3, L3⟩ := rows1 hb3
  have rr3_0 := rw2_0.below L3
  have G3 : Below w.heap.size w w3 := G2.trans (L3.mono G2.size)
  have S3_w0 := S2_w0.below L3
  have F3_w0 := F2_w0.below (R.lt S2_w0) L3
  have S3_g0 := S2_0.below L3
  have F3_g0 := F2_0c.below (R.lt S2_0) L3
  have kc3_0 := rr3_0.cell
  have kc3_1 := rw3_0.cell
  clear rw2_0 G2 S2_w0 F2_w0 S2_0 F2_0c kc2_0 kj2_0 L3 hb3 hz3
  go_wp2_with fail
  go_ret
  exact ⟨rfl, G3⟩

open Go.ChangeShapes Go.WideShapes Go.ChangeAt
set_option maxRecDepth 100000 in
theorem lifted_FnExactParseCell (os : Os) (started : os.Started) (H : Type) (enc : TypeId × Value → H) :
    ReturnsInHanded {} Tryd.checked os 6 .any (fun w args => (Rows.fnExactParseCellSpec.pre enc Tryd.prog Tryd.f6 [] false w args ∧ laidMetH Tryd.prog laidF w) ∧ sizedMet enc Tryd.prog Tryd.f6 (OpenSpec.ofChange Rows.fnExactParseCellSpec) false w args) (Rows.fnExactParseCellSpec.post enc Tryd.prog Tryd.f6 false true false false) := by
  refine of_change_and_shaped (C := Tryd.checked) (X := fun w _ => laidMetH Tryd.prog laidF w) (fun _ _ _ hh h => h.of_heap hh) own_ started (by kernel_rfl) Tryd.func6
    (ChangeSpec.witness_shaped (enc := enc) (C := Tryd.checked) (os := os) (X := fun w _ => laidMetH Tryd.prog laidF w) false (World.laidAll Tryd.prog os laidF) #[.string .empty] 8 (World.laidAll_os _ _ _) (door_shaped os _) (by kernel_rfl) (by kernel_rfl) (by kernel_rfl) (door_met os _)) ?_
  intro W base args ds gs before hval0 hW hcnd _ hL hSh _
  have T0 : TabP W := tab_of_laid hL hSh
  have hval : ∀ (j : Nat) t v, Tryd.f6.params[j]? = some t → args[j]? = some v → Value.okWide Tryd.prog W .any base t v := hval0
  have hW' := hW
  obtain ⟨p, q, hA0, hV, rfl, hfz, hnd⟩ := hW
  have hA : DataW.TrodAll enc Tryd.prog W 0 (fun _ => true) true Tryd.f6.params.toList args.toList ds p := hA0
  rw [Tryd.params6] at hA hval
  obtain ⟨v0, vs0, d0, ds0, p0, q0, ha0, rfl, rfl, h0, r0⟩ := trodAll_cons hA
  obtain ⟨rfl, rfl, rfl⟩ := trodAll_nil r0
  obtain rfl : args = #[v0] := by cases args; simp_all
  obtain ⟨rfl, rfl⟩ := trodVars_none hV
  obtain ⟨x0, rfl, hx0⟩ := arg_str Tryd.underlying9 (hval 0 9 v0 rfl rfl) h0
  clear hA0 hval0
  have hlt : ∀ z ∈ p0 ++ [], z.block < W.heap.size := fun z hz => hW'.lt z (by simpa using hz)
  refine (law_FnExactParseCell x0 W hx0 T0).mono fun e W' ⟨he, hb⟩ => ?_
  subst he
  exact ⟨_, rfl, post_of_below (pa := p0 ++ []) (pv := []) hW' (fun _ _ _ => trodAll_mk1 (shut_bool Tryd.underlying4 _))
    (fun sp hsp => ⟨_, _, WideElems.Trod_stays laidOut_ (by kernel_rfl) (of_decide_eq_true (by kernel_rfl)) h0 (fun z hz => hb.same (hlt z (List.mem_append_left _ hz))) (fun z hz => hsp z (by simp [hz])), rfl, rfl⟩) (fun _ _ => rfl) (by simp) hb (ok_one (by kernel_rfl) rfl (okWide_bool_mk Tryd.underlying4 _))⟩

theorem said_FnExactParseCell : Rows.FnExactParseCellSaid :=
  OpenClaim.holds_of_wide 6 Tryd.f6 rfl rfl rfl rfl rfl rfl rfl ⟨rfl, rfl, rfl, rfl, rfl⟩ rfl rfl rfl rfl rfl (by kernel_rfl) Tryd.func6 (by kernel_rfl)
    (of_decide_eq_true (by kernel_rfl)) (by unfold Func.isWrapper; first | (rw [if_pos (by decide +kernel)]; kernel_rfl) | (rw [if_neg (by decide +kernel)]; exact ⟨rfl, rfl⟩))
    (fun os started H enc _ => lifted_FnExactParseCell os started H enc)
set_option maxRecDepth 100000 in
theorem proved_FnExactParseCell : Rows.FnExactParseCellCardSaid :=
  Claim7.holds_tied_plain_at .later [] [.data, .data, .data, .data, .sentinel, .sentinel, .pinned] true (true, "d1f19570623459938fbd0e752fe048a6ac4ae8ad369fa73b706944cdc963572f") true
    said_FnExactParseCell (fun _ h => by cases h) (by kernel_rfl) (fun _ h => by cases h) fnExactParseCell_row_tie rfl ⟨rfl, rfl⟩ (by kernel_rfl) rfl
    (fun f fn hf hfn => by
      obtain rfl : f = 6 := Option.some.inj ((show Tryd.prog.funcNamed "loop.example/g00510/laws.FnExactParseCell" = some 6 by kernel_rfl).symm.trans hf) |>.symm
      obtain rfl : fn = Tryd.f6 := (Option.some.inj (Tryd.func6.symm.trans hfn)).symm
      exact ⟨by kernel_rfl, fun j t ht => by
        rw [Tryd.params6] at ht
        have hm : t ∈ [9] := by simpa using Array.mem_of_getElem? ht
        have hall : ([9].all fun u => !Tryd.prog.wantsStandIn u) = true := by kernel_rfl
        exact (show Tryd.prog.wantsStandIn t = false by simpa using List.all_eq_true.1 hall t hm)⟩)
    (by kernel_rfl)
end Go.Proofs.YtdjcflnemnknaaaDoor
