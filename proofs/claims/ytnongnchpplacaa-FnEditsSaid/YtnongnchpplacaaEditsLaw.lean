/-
  A list of edits can be split anywhere.
-/
import Derived.Test.YtnongnchpplacaaJZ
namespace Go.Proofs.Ytnongnchpplacaa
open Go.RowKit
set_option linter.unusedSimpArgs false
set_option linter.unusedVariables false
theorem mZ.to2 {P : Program} {f : Nat} {ds l0 l1 : List D} {e0 s0 e1 s1 : Nat} (h : mZ P f ds (.tup [(true, [.own 0 0]), (false, [.own 1 0])]) [⟨l0, e0, s0, 0, true⟩, ⟨l1, e1, s1, 0, true⟩]) (hf0 : dW l0) (hf1 : dW l1) : aK P f ds (.tup [(true, [.sl true l0]), (false, [.sl true l1])]) := fun w vs hr ht =>
  (Qy h hf0 hf1 hr ht).mono fun en w' ⟨f0, cs, f1, v, h1, h2, h3, h4, h5, h6, h7⟩ => by
    rw [mY] at h2
    obtain ⟨g1, g2, c1, c2, hg, hcs, h8, h9⟩ := h2
    obtain ⟨rfl, rfl⟩ := h9
    simp only [List.append_nil] at hg hcs
    subst hg hcs
    have hS : ∃ u, cs = [u] := by
      rw [R] at h8
      obtain ⟨A, cap, h8, _⟩ := h8
      exact ⟨_, h8⟩
    obtain ⟨u, rfl⟩ := hS
    exact ⟨_, h1, ⟨[.agg #[u], v], rfl, ⟨[u], rfl, ⟨f0, h8, fun b hb => ⟨mF.2 (h3.2 b hb).1, fun _ => Or.inl (h3.2 b hb).1⟩⟩, trivial⟩, ⟨⟨f1, h4, fun b hb => ⟨mF.2 (h5.2 b hb).1, fun _ => Or.inl (h5.2 b hb).1⟩⟩, trivial⟩, trivial⟩, h7⟩
theorem Cb (cs : List GCell) (es : List GEdit) (hn : cs.length ≤ 9) (hne : es.length ≤ 8) (hc : ∀ x ∈ cs, fF 5000 x) (he : ∀ e ∈ es, ny e) : aK Try.prog 26 [(⟨cs⟩ : GNb).toD, .sl (es.map edF)] (.tup [(true, [.sl true ((kJ cs es).1.map GCell.toD)]), (false, [.sl true ((kJ cs es).2.map li)])]) :=
  OZ ((Jk ⟨cs⟩ es (by simp only; omega) (by omega) (uN hc) (x9 he)).to2 (GCell.dF _) (Om _))
theorem SL (cs : List GCell) (es : List GEdit) (hn : cs.length ≤ 9) (hne : es.length ≤ 8) (hc : ∀ x ∈ cs, fF 5000 x) (he : ∀ e ∈ es, ny e) : aK Try.prog 27 [(⟨cs⟩ : GNb).toD, .sl (es.map edF)] (.tup [(true, [.sl true ((kJ cs es).1.map GCell.toD)]), (false, [.sl true ((kJ cs es).2.map li)])]) :=
  OZ (FP ⟨cs⟩ es (by simp only; omega) (by omega) (uN hc) (x9 he))
theorem zi {es : List GEdit} (he : ∀ e ∈ es, ny e) {cs : List GCell} (hc : ∀ x ∈ cs, fF 5000 x) : ∀ x ∈ (kJ cs es).1, fF 5000 x := by
  have : ∀ k, k ≤ es.length → ∀ x ∈ (fV cs es k).1, fF 5000 x := by
    intro k
    induction k with
    | zero => intro _; exact hc
    | succ k ih =>
      intro hk
      rw [jI cs es (by omega)]
      exact Ej (ih (by omega)) (he _ (List.getElem_mem _))
  exact this _ (Nat.le_refl _)
theorem yA (cs : List GCell) (es : List GEdit) (h : cs.length ≤ 9) : (kJ cs es).1.length ≤ 9 ∧ (kJ cs es).2.length = es.length := by
  have := uQ cs es es.length (Nat.le_refl _)
  unfold kJ
  exact ⟨by have := this.1; omega, this.2⟩
def JU : IC := (.seq (.reg false [⟨(some 2), none, .mov (.k (.bool false))⟩]) (.seq (.seq (.reg false [⟨(some 14), none, .mov (.t 0)⟩, ⟨(some 15), none, .call 7 [(.t 14)]⟩]) (.cond (.t 15) (.seq (.reg false [⟨(some 2), none, .mov (.k (.bool true))⟩]) .ret) .skip)) (.seq (.reg false [⟨(some 17), none, .mov (.t 0)⟩, ⟨(some 18), none, .call 25 [(.t 17)]⟩, ⟨(some 16), none, .mov (.t 18)⟩, ⟨(some 19), none, .ext 0 (.t 16)⟩, ⟨(some 20), none, .ext 1 (.t 16)⟩, ⟨(some 3), none, .alloc [(.slice none 0 0)]⟩, ⟨none, none, .store 1 (.t 3) (.t 19)⟩, ⟨(some 4), none, .mov (.t 20)⟩]) (.seq (.reg false [⟨(some 22), none, .load 1 true (.t 3)⟩, ⟨(some 23), none, .mov (.t 4)⟩, ⟨(some 24), none, .call 26 [(.t 22), (.t 23)]⟩, ⟨(some 21), none, .mov (.t 24)⟩, ⟨(some 25), none, .ext 0 (.t 21)⟩, ⟨(some 26), none, .ext 1 (.t 21)⟩, ⟨(some 5), none, .alloc [(.slice none 0 0)]⟩, ⟨none, none, .store 1 (.t 5) (.t 25)⟩, ⟨(some 6), none, .mov (.t 26)⟩]) (.seq (.reg false [⟨(some 28), none, .load 1 true (.t 3)⟩, ⟨(some 29), none, .mov (.t 4)⟩, ⟨(some 30), none, .call 27 [(.t 28), (.t 29)]⟩, ⟨(some 27), none, .mov (.t 30)⟩, ⟨(some 31), none, .ext 0 (.t 27)⟩, ⟨(some 32), none, .ext 1 (.t 27)⟩, ⟨(some 7), none, .alloc [(.slice none 0 0)]⟩, ⟨none, none, .store 1 (.t 7) (.t 31)⟩, ⟨(some 8), none, .mov (.t 32)⟩]) (.seq (.seq (.reg false [⟨(some 33), none, .load 1 true (.t 5)⟩, ⟨(some 34), none, .load 1 true (.t 7)⟩, ⟨(some 35), none, .call 16 [(.t 33), (.t 34)]⟩, ⟨(some 36), none, .not (.t 35)⟩, ⟨(some 37), none, .mov (.t 36)⟩, ⟨(some 38), (some (37, false)), .mov (.t 6)⟩, ⟨(some 39), (some (37, false)), .mov (.t 8)⟩, ⟨(some 40), (some (37, false)), .call 28 [(.t 38), (.t 39)]⟩, ⟨(some 41), (some (37, false)), .not (.t 40)⟩, ⟨(some 42), none, .pick (.t 37) (.k (.bool true)) (.t 41)⟩]) (.cond (.t 42) (.seq (.reg false [⟨(some 2), none, .mov (.k (.bool false))⟩]) .ret) .skip)) (.seq (.reg false [⟨(some 43), none, .mov (.t 0)⟩, ⟨(some 44), none, .call 29 [(.t 43), (.k (.int .i64 1))]⟩, ⟨(some 45), none, .mov (.t 4)⟩, ⟨(some 46), none, .len false (.t 45)⟩, ⟨(some 47), none, .bin .add (.t 46) (.k (.int .i64 1))⟩, ⟨(some 48), none, .bin .rem (.t 44) (.t 47)⟩, ⟨(some 9), none, .mov (.t 48)⟩]) (.seq (.reg true [⟨(some 50), none, .load 1 true (.t 3)⟩, ⟨(some 51), none, .mov (.t 4)⟩, ⟨(some 52), none, .mov (.t 9)⟩, ⟨(some 53), none, .lsl 8 (.t 51) none (some (.t 52))⟩, ⟨(some 54), none, .call 26 [(.t 50), (.t 53)]⟩, ⟨(some 49), none, .mov (.t 54)⟩, ⟨(some 55), none, .ext 0 (.t 49)⟩, ⟨(some 56), none, .ext 1 (.t 49)⟩, ⟨(some 10), none, .alloc [(.slice none 0 0)]⟩, ⟨none, none, .store 1 (.t 10) (.t 55)⟩, ⟨(some 11), none, .mov (.t 56)⟩]) (.seq (.reg true [⟨(some 58), none, .load 1 true (.t 10)⟩, ⟨(some 59), none, .mov (.t 4)⟩, ⟨(some 60), none, .mov (.t 9)⟩, ⟨(some 61), none, .lsl 8 (.t 59) (some (.t 60)) none⟩, ⟨(some 62), none, .call 26 [(.t 58), (.t 61)]⟩, ⟨(some 57), none, .mov (.t 62)⟩, ⟨(some 63), none, .ext 0 (.t 57)⟩, ⟨(some 64), none, .ext 1 (.t 57)⟩, ⟨(some 12), none, .alloc [(.slice none 0 0)]⟩, ⟨none, none, .store 1 (.t 12) (.t 63)⟩, ⟨(some 13), none, .mov (.t 64)⟩]) (.seq (.reg false [⟨(some 65), none, .load 1 true (.t 12)⟩, ⟨(some 66), none, .load 1 true (.t 5)⟩, ⟨(some 67), none, .call 16 [(.t 65), (.t 66)]⟩, ⟨(some 68), none, .mov (.t 67)⟩, ⟨(some 69), (some (68, true)), .brow true 3 1 0 false []⟩, ⟨(some 70), (some (68, true)), .mov (.t 11)⟩, ⟨(some 71), (some (68, true)), .app 3 1 (.t 69) (.t 70)⟩, ⟨(some 72), (some (68, true)), .mov (.t 13)⟩, ⟨(some 73), (some (68, true)), .app 3 1 (.t 71) (.t 72)⟩, ⟨(some 74), (some (68, true)), .mov (.t 6)⟩, ⟨(some 75), (some (68, true)), .call 28 [(.t 73), (.t 74)]⟩, ⟨(some 76), none, .pick (.t 68) (.t 75) (.k (.bool false))⟩, ⟨(some 2), none, .mov (.t 76)⟩]) .ret))))))))))
theorem DU : aF Try.prog (Try.f6.body.getD .skip) = some JU := by kernel_rfl
set_option maxRecDepth 8000 in
set_option maxHeartbeats 32000000 in
theorem Oq (l : List UInt8) (hl : l.length ≤ 1048576) : aK Try.prog 6 [.sl (l.map lu8)] (.c false [.raw (.bool (true))]) := by
  refine gG (fn := Try.f6) (t := 2) (by kernel_rfl) (by kernel_rfl) (by kernel_rfl) DU ?_
  unfold JU
  change AWP _ _ _ (st0 77 _)
  refine sS tdX ?_
  have hB := SB l
  rw [decide_eq_false (by omega : ¬ (l.length : Int) > 1048576)] at hB
  repeat' (first | ((with_reducible refine hK _ ?_); clear hK K) | (with_reducible refine ak ?_ ?_) | ((with_reducible refine gi ?_); first | (refine aB ?_ ?_; rfl) | (refine aC ?_ ?_; (rfl; refine gF ?_)) | ((with_reducible refine gS rfl ?_ ?_) <;> (intro hb hb'; first | (exfalso; omega) | skip))) | ((with_reducible refine gxi ?_); first | (refine aO ?_ ?_; rfl) | (refine aP ?_ ?_; (rfl; refine gxF ?_)) | ((with_reducible refine gxS rfl ?_ ?_) <;> (intro hb hb'; first | (exfalso; omega) | skip))) | ((with_reducible refine aU ?_); first | refine au (hc := hB) (h := ?_) | (refine iM (h := (Ot l hl)) (hK := ?_); rintro _ _ ⟨cs, es, hcs, hes, hall, halle, rfl, rfl⟩)) | ((with_reducible refine aH ?_); refine ss (And.intro tdC @gZ) ?_) | ((with_reducible refine bC ?_); refine sx (And.intro tdC @gZ) ?_) | refine nv ?_ | (refine rD ?_; intro K hK) | (with_reducible (refine cS rfl ?_ ?_) <;> (intro hb hb'; first | (exfalso; omega) | skip)) | (exact GCell.el _) | exact aY | exact aI)
  have cI := Cb cs es hcs hes hall halle
  have cS := SL cs es hcs hes hall halle
  have hAl := yA cs es hcs
  have hAc := zi halle hall
  have hsp := fun (k : Nat) (hk : k ≤ es.length) => zh cs es hk
  generalize hA1 : (kJ cs es).1 = A1 at *
  generalize hA2 : (kJ cs es).2 = A2 at *
  have eq1 := rW ⟨A1⟩ ⟨A1⟩ (by simp only; omega)
  have sm1 := yM A2 A2 (by omega) (by omega)
  simp only [decide_true] at eq1 sm1
  have hw1 : IntKind.i64.wrap ((es.length : Int) + 1) = ((es.length + 1 : Nat) : Int) := dY (by omega)
  have hz : (((es.length + 1 : Nat) : Int) = 0) = False := eq_false (by omega)
  have hmod : ∀ y : Nat, (y : Int).tmod ((es.length + 1 : Nat) : Int) = ((y % (es.length + 1) : Nat) : Int) := fun y => (Int.ofNat_tmod y (es.length + 1)).symm
  clear hsp
  repeat' (first | ((with_reducible refine hK _ ?_); clear hK K) | (with_reducible refine ak ?_ ?_) | ((with_reducible refine gi ?_); first | (refine aB ?_ ?_; rfl) | (refine aC ?_ ?_; (rfl; refine gF ?_)) | ((with_reducible refine gS rfl ?_ ?_) <;> (intro hb hb'; first | (exfalso; omega) | skip))) | ((with_reducible refine gxi ?_); first | (refine aO ?_ ?_; rfl) | (refine aP ?_ ?_; (rfl; refine gxF ?_)) | ((with_reducible refine gxS rfl ?_ ?_) <;> (intro hb hb'; first | (exfalso; omega) | skip))) | ((with_reducible refine aU ?_); first | refine au (hc := cI) (h := ?_) | refine au (hc := cS) (h := ?_) | refine au (hc := eq1) (h := ?_) | refine au (hc := sm1) (h := ?_) | (refine iM (h := (Wu l hl)) (hK := ?_); rintro _ _ ⟨⟨y, rfl⟩, rfl⟩)) | ((with_reducible refine aH ?_); refine ss (And.intro tdC (And.intro @gZ (And.intro hw1 (And.intro hz hmod)))) ?_) | ((with_reducible refine bC ?_); refine sx (And.intro tdC (And.intro @gZ (And.intro hw1 (And.intro hz hmod)))) ?_) | refine nv ?_ | (refine rD ?_; intro K hK) | (with_reducible (refine cS rfl ?_ ?_) <;> (intro hb hb'; first | (exfalso; omega) | skip)) | (exact GCell.el _) | exact aY | exact aI)
  have hkl : y % (es.length + 1) ≤ es.length := by have := Nat.mod_lt y (show 0 < es.length + 1 by omega); omega
  generalize y % (es.length + 1) = k at hkl ⊢
  have hsb1 : jY none (some (k : Int)) es.length = some (0, k) := by simp [jY]; omega
  have hsb2 : jY (some (k : Int)) none es.length = some (k, es.length) := by simp [jY]; omega
  have hE1 : (es.take k).map edF = ((es.map edF).take k).drop 0 := by simp
  have hE2 : (es.drop k).map edF = ((es.map edF).take es.length).drop k := by rw [List.take_of_length_le (by simp), List.map_drop]
  have hsp := zh cs es hkl
  have halle1 : ∀ e ∈ es.take k, ny e := fun e he => halle e (List.mem_of_mem_take he)
  have halle2 : ∀ e ∈ es.drop k, ny e := fun e he => halle e (List.mem_of_mem_drop he)
  have cI1 := Cb cs (es.take k) hcs (by rw [List.length_take]; omega) hall halle1
  have hBl := yA cs (es.take k) hcs
  have hBc := zi halle1 hall
  generalize hB1 : (kJ cs (es.take k)).1 = B1 at *
  generalize hB2 : (kJ cs (es.take k)).2 = B2 at *
  have cI2 := Cb B1 (es.drop k) hBl.1 (by rw [List.length_drop]; omega) hBc halle2
  have hCl := yA B1 (es.drop k) hBl.1
  generalize hC1 : (kJ B1 (es.drop k)).1 = C1 at *
  generalize hC2 : (kJ B1 (es.drop k)).2 = C2 at *
  rw [hE1] at cI1
  rw [hE2] at cI2
  rw [hsp] at hA1 hA2
  simp only at hA1 hA2
  have eq2 := rW ⟨C1⟩ ⟨A1⟩ (by simp only; omega)
  have sm2 := yM (B2 ++ C2) A2 (by have := hBl.2; have := hCl.2; rw [List.length_append]; simp at *; omega) (by omega)
  rw [decide_eq_true hA1] at eq2
  rw [decide_eq_true hA2, List.map_append] at sm2
  have hb2 : B2.length ≤ 8 := by have := hBl.2; rw [List.length_take] at this; omega
  have hc2 : C2.length ≤ 8 := by have := hCl.2; rw [List.length_drop] at this; omega
  simp only [hsb1]
  repeat' (first | ((with_reducible refine hK _ ?_); clear hK K) | (with_reducible refine ak ?_ ?_) | ((with_reducible refine gi ?_); first | (refine aB ?_ ?_; rfl) | (refine aC ?_ ?_; (rfl; refine gF ?_)) | ((with_reducible refine gS rfl ?_ ?_) <;> (intro hb hb'; first | (exfalso; omega) | skip))) | ((with_reducible refine gxi ?_); first | (refine aO ?_ ?_; rfl) | (refine aP ?_ ?_; (rfl; refine gxF ?_)) | ((with_reducible refine gxS rfl ?_ ?_) <;> (intro hb hb'; first | (exfalso; omega) | skip))) | ((with_reducible refine aU ?_); first | refine au (hc := cI1) (h := ?_) | refine au (hc := cI2) (h := ?_) | refine au (hc := eq2) (h := ?_) | refine au (hc := sm2) (h := ?_)) | ((with_reducible refine bP ?_); first | refine aA (hc := cI1) (h := ?_) | refine aA (hc := cI2) (h := ?_) | refine aA (hc := eq2) (h := ?_) | refine aA (hc := sm2) (h := ?_)) | ((with_reducible refine aH ?_); refine ss (And.intro tdC (And.intro @gZ (And.intro hsb1 hsb2))) ?_) | ((with_reducible refine bC ?_); refine sx (And.intro tdC (And.intro @gZ (And.intro hsb1 hsb2))) ?_) | refine nv ?_ | (refine rD ?_; intro K hK) | (with_reducible (refine cS rfl ?_ ?_) <;> (intro hb hb'; first | (exfalso; omega) | skip)) | (exact GCell.el _) | exact aY | exact aI)
  exact aS ⟨_, rfl, ⟨rfl, trivial⟩⟩
set_option maxRecDepth 8000 in
set_option maxHeartbeats 8000000 in
theorem Uu (l : List UInt8) (hl : ¬ l.length ≤ 1048576) : aK Try.prog 6 [.sl (l.map lu8)] (.c false [.raw (.bool (true))]) := by
  refine gG (fn := Try.f6) (t := 2) (by kernel_rfl) (by kernel_rfl) (by kernel_rfl) DU ?_
  unfold JU
  change AWP _ _ _ (st0 77 _)
  refine sS tdX ?_
  have hB := SB l
  rw [decide_eq_true (by omega : (l.length : Int) > 1048576)] at hB
  repeat' (first | ((with_reducible refine hK _ ?_); clear hK K) | (with_reducible refine ak ?_ ?_) | ((with_reducible refine gi ?_); first | (refine aB ?_ ?_; rfl) | (refine aC ?_ ?_; (rfl; refine gF ?_)) | ((with_reducible refine gS rfl ?_ ?_) <;> (intro hb hb'; first | (exfalso; omega) | skip))) | ((with_reducible refine gxi ?_); first | (refine aO ?_ ?_; rfl) | (refine aP ?_ ?_; (rfl; refine gxF ?_)) | ((with_reducible refine gxS rfl ?_ ?_) <;> (intro hb hb'; first | (exfalso; omega) | skip))) | ((with_reducible refine aU ?_); first | refine au (hc := hB) (h := ?_)) | ((with_reducible refine aH ?_); refine ss (And.intro tdC @gZ) ?_) | ((with_reducible refine bC ?_); refine sx (And.intro tdC @gZ) ?_) | refine nv ?_ | (refine rD ?_; intro K hK) | (with_reducible (refine cS rfl ?_ ?_) <;> (intro hb hb'; first | (exfalso; omega) | skip)) | (exact GCell.el _) | exact aY | exact aI)
  exact aS ⟨_, rfl, ⟨rfl, trivial⟩⟩
theorem GV (l : List UInt8) (fp : List Nat) (v : Value) (w : World) (h : Sl w (l.map lu8) fp v) : Calls Try.prog 6 #[v] w (S9 w) := by
  have hC : aK Try.prog 6 [.sl (l.map lu8)] (.c false [.raw (.bool (true))]) := by
    by_cases hl : l.length ≤ 1048576
    · exact Oq l hl
    · exact Uu l hl
  refine (Vu hC (vs := [v]) ⟨Pz h, trivial⟩).mono ?_
  rintro e w' ⟨h1, h2⟩
  exact ⟨h1, h2⟩
open Go.ChangeShapes Go.WideShapes Go.ChangeAt
set_option maxRecDepth 100000 in
theorem Au (os : Os) (started : os.Started) (H : Type) (enc : TypeId × Value → H) :
    ReturnsInHanded {} Try.checked os 6 .any (Rows.fnEditsSpec.pre6 enc Try.prog Try.f6 Rows.fnEditsRow.domain false) (Rows.fnEditsSpec.post enc Try.prog Try.f6 false true false false) := by
  refine returnsInHanded_of_change (C := Try.checked) WC started (by kernel_rfl) Try.func6
    (ChangeSpec.witness6 (enc := enc) (C := Try.checked) false ⟨#[], #[.slice none 0 0], []⟩ 8 (by kernel_rfl) (by kernel_rfl) (by kernel_rfl) (by kernel_rfl)) ?_
  intro W base args ds gs before hval0 hW hcnd _
  have hval : ∀ (j : Nat) t v, Try.f6.params[j]? = some t → args[j]? = some v → Value.okWide Try.prog W .any base t v := hval0
  have hW' := hW
  obtain ⟨p, q, hA0, hV, rfl, hfz, hnd⟩ := hW
  have hA : DataW.TrodAll enc Try.prog W 0 (fun _ => true) true Try.f6.params.toList args.toList ds p := hA0
  rw [Try.params6] at hA hval
  obtain ⟨v0, vs0, d0, ds0, p0, q0, ha0, rfl, rfl, h0, r0⟩ := trodAll_cons hA
  obtain ⟨rfl, rfl, rfl⟩ := trodAll_nil r0
  obtain rfl : args = #[v0] := by cases args; simp_all
  obtain ⟨rfl, rfl⟩ := trodVars_none hV
  obtain ⟨l0, fx0, hx0, wx0⟩ := OH Try.underlying22 (hval 0 22 v0 rfl rfl) (fun n => Vr n) h0
  clear hA0 hval0
  have hlt : ∀ z ∈ p0 ++ [], z.block < W.heap.size := fun z hz => hW'.lt z (by simpa using hz)
  refine (GV l0 fx0 _ W hx0).mono fun e W' ⟨he, hb⟩ => ?_
  subst he
  exact ⟨_, rfl, CO (pa := p0 ++ []) (pv := []) hW' (fun _ _ _ => trodAll_mk1 (shut_bool Try.underlying4 _))
    (fun sp hsp => ⟨_, _, WideElems.Trod_stays QG (by kernel_rfl) (of_decide_eq_true (by kernel_rfl)) h0 (fun z hz => hb.same (hlt z (List.mem_append_left _ hz))) (fun z hz => hsp z (by simp [hz])), rfl, rfl⟩) (fun _ _ => rfl) (by simp) hb (ok_one (by kernel_rfl) rfl (okWide_bool_mk Try.underlying4 _))⟩
theorem proved_FnEdits : Rows.FnEditsSaid :=
  OpenClaim.holds_of_wide 6 Try.f6 rfl rfl rfl rfl rfl rfl rfl ⟨rfl, rfl, rfl, rfl, rfl⟩ rfl rfl rfl rfl rfl (by kernel_rfl) Try.func6 (by kernel_rfl)
    (of_decide_eq_true (by kernel_rfl)) (by unfold Func.isWrapper; first | (rw [if_pos (by decide +kernel)]; kernel_rfl) | (rw [if_neg (by decide +kernel)]; exact ⟨rfl, rfl⟩))
    (fun os started H enc _ => Au os started H enc)
end Go.Proofs.Ytnongnchpplacaa
