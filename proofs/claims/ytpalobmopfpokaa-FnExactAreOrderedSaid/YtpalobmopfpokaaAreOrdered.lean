/-
  The program's AreOrdered returns what the reference's returns, for all arguments. No condition.
-/
import Derived.Test.YtpalobmopfpokaaFin
import Derived.Test.YtpalobmopfpokaaSz
import Derived.Test.YtpalobmopfpokaaTo
import Derived.Test.YtpalobmopfpokaaEq
import Derived.Test.YtpalobmopfpokaaTapes
namespace Go.Proofs.Ytpalobmopfpokaa
open Go.RowKit
set_option linter.unusedSimpArgs false
set_option linter.unusedVariables false

set_option maxRecDepth 20000 in
set_option maxHeartbeats 4000000 in
theorem law_FnExactAreOrdered (l : List GTape) (fx : List Nat) (v : Value) (w : World) (hx : Sl w (l.map GTape.toD) fx v) (wx : D.wfs (l.map GTape.toD)) :
    Calls Try.prog 6 #[v] w (TruePost w) := by
  have hSx : ∀ W : World, Below w.heap.size w W → Calls Try.prog 15 #[v, .int .i64 1048576] W (SzPost 1048576 ((l.map GTape.toD).length + D.wts (l.map GTape.toD)) W) := fun W h => TapeS_szSaid l W _ _ _ (hx.below h) wx (by omega) (by omega)
  have hTx : ∀ W : World, Below w.heap.size w W → (l.map GTape.toD).length + D.wts (l.map GTape.toD) ≤ 1048576 → Calls Try.prog 17 #[v] W (TosPost (l.map GTape.toD) W) := fun W h hw => TapeS_toSaid l W _ _ (hx.below h) hw
  obtain ⟨A1, d1, rfl, _, _⟩ := hx.formT
  clear hx wx
  go_enter Try.func6, Try.ntmps6
  go_wp2_with fail
  refine (hSx _ (Below.refl _ _)).mono ?_
  rintro e w1 ⟨r1, rfl, hr1, _, _, G1⟩
  clear hSx
  go_wp2_with fail
  · go_ret
    exact ⟨rfl, G1⟩
  have hwx : (l.map GTape.toD).length + D.wts (l.map GTape.toD) ≤ 1048576 := by have := hr1.le (by omega); omega
  have Hx := fun W h => hTx W h hwx
  have hn : countR l ≤ 1048576 := by have := countR_wts l; omega
  clear hTx hr1 hwx
  refine (Hx _ G1).mono ?_
  rintro e w3 ⟨f3, v3, rfl, S3, F3, hb3⟩
  obtain ⟨A3, d3, rfl, _, _⟩ := S3.formT
  have G3 : Below w.heap.size w w3 := G1.trans (hb3.mono G1.size)
  go_wp2_with fail
  refine (areOrdered_spec l _ _ _ S3 hn).mono ?_
  generalize hbb : ordT l = bb at *
  have hbb' := Lib.hid hbb
  clear hbb
  rintro e w5 ⟨rfl, hb5⟩
  have G5 : Below w.heap.size w w5 := G3.trans (hb5.mono G3.size)
  clear S3 F3 G1 G3 hb3 hb5
  go_wp2_with fail
  refine (Hx _ G5).mono ?_
  rintro e w6 ⟨f6, v6, rfl, S6, F6, hb6⟩
  obtain ⟨A6, d6, rfl, _, _⟩ := S6.formT
  have G6 : Below w.heap.size w w6 := G5.trans (hb6.mono G5.size)
  clear hb6 F6
  go_wp2_with fail
  refine (areOrdered_impl l _ _ _ S6 hn).mono ?_
  rw [hbb'.out]
  rintro e w8 ⟨rfl, hb8⟩
  have G8 : Below w.heap.size w w8 := G6.trans (hb8.mono G6.size)
  have S8 := S6.below hb8
  clear hb8 S6 hbb'
  go_wp2_with fail
  refine (Hx _ G8).mono ?_
  rintro e w9 ⟨f9, v9, rfl, S9, F9, hb9⟩
  obtain ⟨A9, d9, rfl, _, _⟩ := S9.formT
  have G9 : Below w.heap.size w w9 := G8.trans (hb9.mono G8.size)
  go_wp2_with fail
  refine (TapeS_eqSaid l _ _ _ _ _ (S8.below hb9) S9).mono ?_
  rintro e w10 ⟨rfl, hb10⟩
  have G10 : Below w.heap.size w w10 := G9.trans (hb10.mono G9.size)
  go_wp2_with fail
  go_ret
  exact ⟨rfl, G10⟩

open Go.ChangeShapes Go.WideShapes Go.ChangeAt
set_option maxRecDepth 100000 in
theorem lifted_FnExactAreOrdered (os : Os) (started : os.Started) (H : Type) (enc : TypeId × Value → H) :
    ReturnsInHanded {} Try.checked os 6 .any (Rows.fnExactAreOrderedSpec.pre6 enc Try.prog Try.f6 Rows.fnExactAreOrderedRow.domain false) (Rows.fnExactAreOrderedSpec.post enc Try.prog Try.f6 false true false false) := by
  refine returnsInHanded_of_change (C := Try.checked) own_ started (by kernel_rfl) Try.func6
    (ChangeSpec.witness6 (enc := enc) (C := Try.checked) false ⟨#[], #[.slice none 0 0], []⟩ 8 (by kernel_rfl) (by kernel_rfl) (by kernel_rfl) (by kernel_rfl)) ?_
  intro W base args ds gs before hval0 hW hcnd _
  have hval : ∀ (j : Nat) t v, Try.f6.params[j]? = some t → args[j]? = some v → Value.okWide Try.prog W .any base t v := hval0
  have hW' := hW
  obtain ⟨p, q, hA0, hV, rfl, hfz, hnd⟩ := hW
  have hA : DataW.TrodAll enc Try.prog W 0 (fun _ => true) true Try.f6.params.toList args.toList ds p := hA0
  rw [Try.params6] at hA hval
  obtain ⟨v0, vs0, d0, ds0, p0, q0, hargs, rfl, rfl, h0, r0⟩ := trodAll_cons hA
  obtain ⟨rfl, rfl, rfl⟩ := trodAll_nil r0
  obtain rfl : args = #[v0] := by cases args; simp_all
  obtain ⟨rfl, rfl⟩ := trodVars_none hV
  obtain ⟨x, fx, hx, wx⟩ := arg_slice Try.underlying34 (hval 0 34 v0 rfl rfl) (fun n => rd_SGTape n) h0
  clear hA0 hval0
  simp only [List.append_nil] at hW'
  have hlt : ∀ z ∈ p0, z.block < W.heap.size := fun z hz => by simpa using hW'.lt z hz
  refine (law_FnExactAreOrdered x fx _ W hx wx).mono fun e W' ⟨he, hb⟩ => ?_
  subst he
  exact ⟨_, rfl, post_of_below (pa := p0) (pv := []) hW' (fun _ _ _ => trodAll_mk1 (shut_bool Try.underlying4 _))
    (fun sp hsp => trodAll_mk1 (WideElems.Trod_stays laidOut_ (by kernel_rfl) (of_decide_eq_true (by kernel_rfl)) h0 (fun z hz => hb.same (hlt z hz)) (fun z hz => hsp z hz))) (fun _ _ => rfl) (by simp) hb (ok_one (by kernel_rfl) rfl (okWide_bool_mk Try.underlying4 _))⟩

theorem proved_FnExactAreOrdered : Rows.FnExactAreOrderedSaid :=
  OpenClaim.holds_of_wide 6 Try.f6 rfl rfl rfl rfl rfl rfl rfl ⟨rfl, rfl, rfl, rfl, rfl⟩ rfl rfl rfl rfl rfl (by kernel_rfl) Try.func6 (by kernel_rfl)
    (of_decide_eq_true (by kernel_rfl)) (by unfold Func.isWrapper; first | (rw [if_pos (by decide +kernel)]; kernel_rfl) | (rw [if_neg (by decide +kernel)]; exact ⟨rfl, rfl⟩))
    (fun os started H enc _ => lifted_FnExactAreOrdered os started H enc)
end Go.Proofs.Ytpalobmopfpokaa
