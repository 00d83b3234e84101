/-
  The NW edit restores the content of the notebook.
-/
import Derived.Test.YtnongnchpplacaaJZ
import Derived.Test.YtnongnchpplacaaJS
import Derived.Test.YtnongnchpplacaaJR
namespace Go.Proofs.Ytnongnchpplacaa
open Go.RowKit
set_option linter.unusedSimpArgs false
set_option linter.unusedVariables false
theorem Lm : (li 0).wf := IJ (by omega) (by omega)
theorem rM {id : Int} (h : (li id).wf) : (gy id).toD.wf := ⟨h, Lm, Lm, Nat.zero_le _, Nat.zero_le _, Lm, trivial⟩
theorem Qp : ∀ {l : List GCell}, D.wfs (l.map GCell.toD) → ∀ {k : Nat} {o : GCell}, l[k]? = some o → o.toD.wf
  | [], _, k, o, h => by simp at h
  | x :: l, hw, 0, o, h => by
    simp at h
    subst h
    exact hw.1
  | x :: l, hw, k + 1, o, h => Qp hw.2 (by simpa using h)
theorem WW {l : List GCell} {e : GEdit} (hl : l.length ≤ 1048576) (hw : D.wfs (l.map GCell.toD)) (he : e.toD.wf) : (inv l e).1.toD.wf := by
  have hc : e.cell.toD.wf := he.2.2.1
  have K : ∀ n : Nat, n ≤ 6 → (li (n : Int)).wf := fun n hn => IJ (by omega) (by omega)
  have h0 : (li 0).wf := IJ (by omega) (by omega)
  have hi : (li (bD l e.cell.id)).wf := by
    rcases dG l e.cell.id with h | ⟨k, hk, h⟩
    · rw [h]; exact IJ (by omega) (by omega)
    · rw [h]; exact IJ (by omega) (by omega)
  have he' : (⟨#[]⟩ : ByteArray).size ≤ maxLen := Nat.zero_le _
  unfold inv
  split
  · exact ⟨h0, h0, rM h0, trivial⟩
  · show D.wf (GEdit.toD (ite _ _ _))
    split
    · exact ⟨K 2 (by omega), h0, rM hc.1, trivial⟩
    · split
      · exact ⟨h0, h0, rM h0, trivial⟩
      · next o ho =>
        have hO := Qp hw ho
        split
        · exact ⟨K 1 (by omega), hi, hO, trivial⟩
        · split
          · exact ⟨K 3 (by omega), hi, rM hc.1, trivial⟩
          · split
            · exact ⟨K 4 (by omega), h0, ⟨hc.1, h0, h0, hO.2.2.2.1, hO.2.2.2.2.1, h0, trivial⟩, trivial⟩
            · split
              · exact ⟨K 5 (by omega), h0, ⟨hc.1, h0, h0, he', he', hO.2.2.2.2.2.1, trivial⟩, trivial⟩
              · exact ⟨K 6 (by omega), h0, rM hc.1, trivial⟩
def wE : IC := (.seq (.reg false [⟨(some 2), none, .mov (.k (.bool false))⟩]) (.seq (.seq (.reg false [⟨(some 11), none, .mov (.t 0)⟩, ⟨(some 12), none, .call 7 [(.t 11)]⟩]) (.cond (.t 12) (.seq (.reg false [⟨(some 2), none, .mov (.k (.bool true))⟩]) .ret) .skip)) (.seq (.reg false [⟨(some 14), none, .mov (.t 0)⟩, ⟨(some 15), none, .call 19 [(.t 14)]⟩, ⟨(some 13), none, .mov (.t 15)⟩, ⟨(some 16), none, .ext 0 (.t 13)⟩, ⟨(some 17), none, .ext 1 (.t 13)⟩, ⟨(some 3), none, .alloc [(.slice none 0 0)]⟩, ⟨(some 4), none, .alloc [(.int .i64 0), (.int .i64 0), (.int .i64 0), (.int .i64 0), (.int .i64 0), (.string ⟨#[]⟩), (.string ⟨#[]⟩), (.int .i64 0)]⟩, ⟨none, none, .store 1 (.t 3) (.t 16)⟩, ⟨none, none, .store 8 (.t 4) (.t 17)⟩]) (.seq (.reg false [⟨(some 19), none, .load 1 true (.t 3)⟩, ⟨(some 20), none, .load 8 true (.t 4)⟩, ⟨(some 21), none, .call 20 [(.t 19), (.t 20)]⟩, ⟨(some 18), none, .mov (.t 21)⟩, ⟨(some 22), none, .ext 0 (.t 18)⟩, ⟨(some 23), none, .ext 1 (.t 18)⟩, ⟨(some 5), none, .alloc [(.int .i64 0), (.int .i64 0), (.int .i64 0), (.int .i64 0), (.int .i64 0), (.string ⟨#[]⟩), (.string ⟨#[]⟩), (.int .i64 0)]⟩, ⟨none, none, .store 8 (.t 5) (.t 22)⟩, ⟨(some 6), none, .mov (.t 23)⟩]) (.seq (.reg false [⟨(some 25), none, .load 1 true (.t 3)⟩, ⟨(some 26), none, .load 8 true (.t 4)⟩, ⟨(some 27), none, .call 21 [(.t 25), (.t 26)]⟩, ⟨(some 24), none, .mov (.t 27)⟩, ⟨(some 28), none, .ext 0 (.t 24)⟩, ⟨(some 29), none, .ext 1 (.t 24)⟩, ⟨(some 7), none, .alloc [(.slice none 0 0)]⟩, ⟨none, none, .store 1 (.t 7) (.t 28)⟩, ⟨(some 8), none, .mov (.t 29)⟩]) (.seq (.seq (.reg false [⟨(some 30), none, .mov (.t 6)⟩, ⟨(some 31), none, .mov (.t 8)⟩, ⟨(some 32), none, .bin .eql (.t 31) (.k (.int .i64 0))⟩, ⟨(some 33), none, .beq true (.t 30) (.t 32)⟩]) (.cond (.t 33) (.seq (.reg false [⟨(some 2), none, .mov (.k (.bool false))⟩]) .ret) .skip)) (.seq (.seq (.reg false [⟨(some 34), none, .mov (.t 6)⟩, ⟨(some 35), none, .not (.t 34)⟩]) (.cond (.t 35) (.seq (.reg false [⟨(some 36), none, .load 8 true (.t 5)⟩, ⟨(some 37), none, .bld [(.int .i64 0), (.int .i64 0), (.int .i64 0), (.int .i64 0), (.int .i64 0), (.string ⟨#[]⟩), (.string ⟨#[]⟩), (.int .i64 0)] []⟩, ⟨(some 38), none, .beqS false [(.int .i64 0), (.int .i64 0), (.int .i64 0), (.int .i64 0), (.int .i64 0), (.string ⟨#[]⟩), (.string ⟨#[]⟩), (.int .i64 0)] (.t 36) (.t 37)⟩, ⟨(some 2), none, .mov (.t 38)⟩]) .ret) .skip)) (.seq (.reg false [⟨(some 40), none, .load 1 true (.t 7)⟩, ⟨(some 41), none, .load 8 true (.t 5)⟩, ⟨(some 42), none, .call 21 [(.t 40), (.t 41)]⟩, ⟨(some 39), none, .mov (.t 42)⟩, ⟨(some 43), none, .ext 0 (.t 39)⟩, ⟨(some 44), none, .ext 1 (.t 39)⟩, ⟨(some 9), none, .alloc [(.slice none 0 0)]⟩, ⟨none, none, .store 1 (.t 9) (.t 43)⟩, ⟨(some 10), none, .mov (.t 44)⟩]) (.seq (.reg false [⟨(some 45), none, .mov (.t 10)⟩, ⟨(some 46), none, .bin .eql (.t 45) (.k (.int .i64 6))⟩, ⟨(some 47), none, .mov (.t 46)⟩, ⟨(some 48), (some (47, false)), .mov (.t 10)⟩, ⟨(some 49), (some (47, false)), .bin .eql (.t 48) (.k (.int .i64 0))⟩, ⟨(some 50), (some (47, false)), .mov (.t 49)⟩, ⟨(some 51), (some (50, true)), .load 1 true (.t 9)⟩, ⟨(some 52), (some (50, true)), .load 1 true (.t 3)⟩, ⟨(some 53), (some (50, true)), .call 18 [(.t 51), (.t 52)]⟩, ⟨(some 54), (some (47, false)), .pick (.t 50) (.t 53) (.k (.bool false))⟩, ⟨(some 55), none, .pick (.t 47) (.k (.bool true)) (.t 54)⟩, ⟨(some 2), none, .mov (.t 55)⟩]) .ret)))))))))
theorem vP : aF Try.prog (Try.f4.body.getD .skip) = some wE := by kernel_rfl
set_option maxRecDepth 8000 in
set_option maxHeartbeats 32000000 in
theorem DJ (l : List UInt8) (hl : l.length ≤ 1048576) : aK Try.prog 4 [.sl (l.map lu8)] (.c false [.raw (.bool (true))]) := by
  refine fZ (fn := Try.f4) (t := 2) (by kernel_rfl) (by kernel_rfl) (by kernel_rfl) vP ?_
  unfold wE
  change AWP _ _ _ (st0 56 _)
  refine sS tdX ?_
  have hB := GN l
  rw [decide_eq_false (by omega : ¬ (l.length : Int) > 1048576)] at hB
  repeat' (first | ((with_reducible refine aG ?_); intro K hK) | ((with_reducible refine hK _ ?_); clear hK K) | (with_reducible refine ak ?_ ?_) | ((with_reducible refine gi ?_); first | (refine aB ?_ ?_; rfl) | (refine aC ?_ ?_; (rfl; refine gF ?_)) | ((with_reducible refine gS rfl ?_ ?_) <;> (intro hb hb'; first | (exfalso; omega) | skip))) | ((with_reducible refine aU ?_); first | refine au (hc := hB) (h := ?_) | (refine iw (h := (P6 l hl)) (hK := ?_); rintro _ _ ⟨cs, e, hcs, hall, hE, rfl, rfl⟩)) | ((with_reducible refine aH ?_); refine ss (XR tdC @gQ) ?_) | refine nv ?_ | (with_reducible (refine cS rfl ?_ ?_) <;> (intro hb hb'; first | (exfalso; omega) | skip)) | (exact GCell.el _) | exact aZ | exact aI)
  have hwl := rO hall
  have hew := J5 hE
  have cI := Aa ⟨cs⟩ e (by simp only; omega) hwl hew
  have cA := nX ⟨cs⟩ e (by simp only; omega) hwl hew
  simp only at cI cA
  by_cases h0 : (app cs e).2 = 0
  case neg =>
    have hi : inv cs e = (⟨0, 0, gy 0⟩, false) := by
      unfold inv
      rw [if_pos (by simpa using h0)]
    rw [hi] at cI
    simp only [GEdit.bH, gy] at cI
    have hq : ((app cs e).2 == 0) = false := by simpa using h0
    generalize (app cs e).1 = R at cA
    generalize (app cs e).2 = c at cA hq
    repeat' (first | ((with_reducible refine aG ?_); intro K hK) | ((with_reducible refine hK _ ?_); clear hK K) | (with_reducible refine ak ?_ ?_) | ((with_reducible refine gi ?_); first | (refine aB ?_ ?_; rfl) | (refine aC ?_ ?_; (rfl; refine gF ?_)) | ((with_reducible refine gS rfl ?_ ?_) <;> (intro hb hb'; first | (exfalso; omega) | skip))) | ((with_reducible refine aU ?_); first | refine au (hc := cI) (h := ?_) | refine au (hc := cA) (h := ?_)) | ((with_reducible refine bG ?_); first | refine ay (hc := cI) (h := ?_) | refine ay (hc := cA) (h := ?_)) | ((with_reducible refine aH ?_); refine ss (XR tdC (XR @gQ hq)) ?_) | refine nv ?_ | (with_reducible (refine cS rfl ?_ ?_) <;> (intro hb hb'; first | (exfalso; omega) | skip)) | (exact GCell.el _) | exact aZ | exact aI)
    exact aS ⟨_, rfl, ⟨rfl, trivial⟩⟩
  have hlaw := NW h0
  have hi2 : (inv cs e).2 = true := by
    unfold inv
    rw [if_neg (by simp [h0])]
  have hbw := WW (l := cs) (e := e) (by omega) hwl hew
  have hAc := Fa hall hE
  have hAl : (app cs e).1.length ≤ 1000 := by have := KE cs e; omega
  rw [hi2] at cI
  rw [h0] at cA
  generalize (app cs e).1 = R at *
  generalize (inv cs e).1 = b at *
  have cB := nX ⟨R⟩ b (by simp only; omega) (rO hAc) hbw
  simp only [GEdit.bH] at cI cB
  have hRl := OD R b
  generalize (app R b).1 = R2 at *
  rcases hlaw with h6 | ⟨h6, h7⟩
  · rw [h6] at cB
    repeat' (first | ((with_reducible refine aG ?_); intro K hK) | ((with_reducible refine hK _ ?_); clear hK K) | (with_reducible refine ak ?_ ?_) | ((with_reducible refine gi ?_); first | (refine aB ?_ ?_; rfl) | (refine aC ?_ ?_; (rfl; refine gF ?_)) | ((with_reducible refine gS rfl ?_ ?_) <;> (intro hb hb'; first | (exfalso; omega) | skip))) | ((with_reducible refine aU ?_); first | refine au (hc := cI) (h := ?_) | refine au (hc := cA) (h := ?_) | refine au (hc := cB) (h := ?_)) | ((with_reducible refine bG ?_); first | refine ay (hc := cI) (h := ?_) | refine ay (hc := cA) (h := ?_) | refine ay (hc := cB) (h := ?_)) | ((with_reducible refine aH ?_); refine ss (XR tdC @gQ) ?_) | refine nv ?_ | (with_reducible (refine cS rfl ?_ ?_) <;> (intro hb hb'; first | (exfalso; omega) | skip)) | (exact GCell.el _) | exact aZ | exact aI)
    exact aS ⟨_, rfl, ⟨rfl, trivial⟩⟩
  · rw [h6] at cB
    have cS := Dx ⟨R2⟩ ⟨cs⟩ (by simp only; omega) (by simp only; omega)
    rw [decide_eq_true h7] at cS
    repeat' (first | ((with_reducible refine aG ?_); intro K hK) | ((with_reducible refine hK _ ?_); clear hK K) | (with_reducible refine ak ?_ ?_) | ((with_reducible refine gi ?_); first | (refine aB ?_ ?_; rfl) | (refine aC ?_ ?_; (rfl; refine gF ?_)) | ((with_reducible refine gS rfl ?_ ?_) <;> (intro hb hb'; first | (exfalso; omega) | skip))) | ((with_reducible refine aU ?_); first | refine au (hc := cI) (h := ?_) | refine au (hc := cA) (h := ?_) | refine au (hc := cB) (h := ?_) | refine au (hc := cS) (h := ?_)) | ((with_reducible refine bG ?_); first | refine ay (hc := cI) (h := ?_) | refine ay (hc := cA) (h := ?_) | refine ay (hc := cB) (h := ?_) | refine ay (hc := cS) (h := ?_)) | ((with_reducible refine aH ?_); refine ss (XR tdC @gQ) ?_) | refine nv ?_ | (with_reducible (refine cS rfl ?_ ?_) <;> (intro hb hb'; first | (exfalso; omega) | skip)) | (exact GCell.el _) | exact aZ | exact aI)
    exact aS ⟨_, rfl, ⟨rfl, trivial⟩⟩
set_option maxRecDepth 8000 in
set_option maxHeartbeats 8000000 in
theorem IW (l : List UInt8) (hl : ¬ l.length ≤ 1048576) : aK Try.prog 4 [.sl (l.map lu8)] (.c false [.raw (.bool (true))]) := by
  refine fZ (fn := Try.f4) (t := 2) (by kernel_rfl) (by kernel_rfl) (by kernel_rfl) vP ?_
  unfold wE
  change AWP _ _ _ (st0 56 _)
  refine sS tdX ?_
  have hB := GN l
  rw [decide_eq_true (by omega : (l.length : Int) > 1048576)] at hB
  repeat' (first | ((with_reducible refine aG ?_); intro K hK) | ((with_reducible refine hK _ ?_); clear hK K) | (with_reducible refine ak ?_ ?_) | ((with_reducible refine gi ?_); first | (refine aB ?_ ?_; rfl) | (refine aC ?_ ?_; (rfl; refine gF ?_)) | ((with_reducible refine gS rfl ?_ ?_) <;> (intro hb hb'; first | (exfalso; omega) | skip))) | ((with_reducible refine aU ?_); first | refine au (hc := hB) (h := ?_)) | ((with_reducible refine aH ?_); refine ss (XR tdC @gQ) ?_) | refine nv ?_ | (with_reducible (refine cS rfl ?_ ?_) <;> (intro hb hb'; first | (exfalso; omega) | skip)) | (exact GCell.el _) | exact aZ | exact aI)
  exact aS ⟨_, rfl, ⟨rfl, trivial⟩⟩
theorem DF (l : List UInt8) (fp : List Nat) (v : Value) (w : World) (h : Sl w (l.map lu8) fp v) : Calls Try.prog 4 #[v] w (KP w) := by
  have hC : aK Try.prog 4 [.sl (l.map lu8)] (.c false [.raw (.bool (true))]) := by
    by_cases hl : l.length ≤ 1048576
    · exact DJ l hl
    · exact IW l hl
  refine (Si hC (vs := [v]) ⟨Ig h, trivial⟩).mono ?_
  rintro e w' ⟨h1, h2⟩
  exact ⟨h1, h2⟩
open Go.ChangeShapes Go.WideShapes Go.ChangeAt
set_option maxRecDepth 100000 in
theorem yK (os : Os) (started : os.Started) (H : Type) (enc : TypeId × Value → H) :
    ReturnsInHanded {} Try.checked os 4 .any (Rows.fnInverseSpec.pre6 enc Try.prog Try.f4 Rows.fnInverseRow.domain false) (Rows.fnInverseSpec.post enc Try.prog Try.f4 false true false false) := by
  refine returnsInHanded_of_change (C := Try.checked) Xu started (by kernel_rfl) Try.func4
    (ChangeSpec.witness6 (enc := enc) (C := Try.checked) false ⟨#[], #[.slice none 0 0], []⟩ 8 (by kernel_rfl) (by kernel_rfl) (by kernel_rfl) (by kernel_rfl)) ?_
  intro W base args ds gs before hval0 hW hcnd _
  have hval : ∀ (j : Nat) t v, Try.f4.params[j]? = some t → args[j]? = some v → Value.okWide Try.prog W .any base t v := hval0
  have hW' := hW
  obtain ⟨p, q, hA0, hV, rfl, hfz, hnd⟩ := hW
  have hA : DataW.TrodAll enc Try.prog W 0 (fun _ => true) true Try.f4.params.toList args.toList ds p := hA0
  rw [Try.params4] at hA hval
  obtain ⟨v0, vs0, d0, ds0, p0, q0, ha0, rfl, rfl, h0, r0⟩ := trodAll_cons hA
  obtain ⟨rfl, rfl, rfl⟩ := trodAll_nil r0
  obtain rfl : args = #[v0] := by cases args; simp_all
  obtain ⟨rfl, rfl⟩ := trodVars_none hV
  obtain ⟨l0, fx0, hx0, wx0⟩ := E8 Try.underlying22 (hval 0 22 v0 rfl rfl) (fun n => QS n) h0
  clear hA0 hval0
  have hlt : ∀ z ∈ p0 ++ [], z.block < W.heap.size := fun z hz => hW'.lt z (by simpa using hz)
  refine (DF l0 fx0 _ W hx0).mono fun e W' ⟨he, hb⟩ => ?_
  subst he
  exact ⟨_, rfl, vM (pa := p0 ++ []) (pv := []) hW' (fun _ _ _ => trodAll_mk1 (shut_bool Try.underlying4 _))
    (fun sp hsp => ⟨_, _, WideElems.Trod_stays IK (by kernel_rfl) (of_decide_eq_true (by kernel_rfl)) h0 (fun z hz => hb.same (hlt z (List.mem_append_left _ hz))) (fun z hz => hsp z (by simp [hz])), rfl, rfl⟩) (fun _ _ => rfl) (by simp) hb (ok_one (by kernel_rfl) rfl (okWide_bool_mk Try.underlying4 _))⟩
theorem proved_FnInverse : Rows.FnInverseSaid :=
  OpenClaim.holds_of_wide 4 Try.f4 rfl rfl rfl rfl rfl rfl rfl ⟨rfl, rfl, rfl, rfl, rfl⟩ rfl rfl rfl rfl rfl (by kernel_rfl) Try.func4 (by kernel_rfl)
    (of_decide_eq_true (by kernel_rfl)) (by unfold Func.isWrapper; first | (rw [if_pos (by decide +kernel)]; kernel_rfl) | (rw [if_neg (by decide +kernel)]; exact ⟨rfl, rfl⟩))
    (fun os started H enc _ => yK os started H enc)
end Go.Proofs.Ytnongnchpplacaa
