/-
  Texts joined: Edit5 Edit6 Edit7.
-/
import Derived.Test.YtnongnchpplacaaJQ
import Derived.Test.YtnongnchpplacaaJE
namespace Go.Proofs.Ytnongnchpplacaa
open Go.RowKit
set_option linter.unusedSimpArgs false
set_option linter.unusedVariables false
end Go.Proofs.Ytnongnchpplacaa

namespace Go.Proofs.Ytnongnchpplacaa
open Go.RowKit
set_option linter.unusedSimpArgs false
set_option linter.unusedVariables false
theorem pkE : type_of% (And.intro @GNb.bK (And.intro @GNb.aZ (And.intro @GNb.bG (And.intro @GCell.bK (And.intro @GCell.aZ (And.intro @GCell.bG (And.intro @GCell.el (And.intro @GEdit.bK (And.intro @GEdit.aZ (And.intro @GEdit.bG (@GEdit.el))))))))))) := And.intro @GNb.bK (And.intro @GNb.aZ (And.intro @GNb.bG (And.intro @GCell.bK (And.intro @GCell.aZ (And.intro @GCell.bG (And.intro @GCell.el (And.intro @GEdit.bK (And.intro @GEdit.aZ (And.intro @GEdit.bG (@GEdit.el))))))))))
def AU (id : Int) : GCell := ⟨id, 0, 0, ⟨#[]⟩, ⟨#[]⟩, 0⟩
def inv (l : List GCell) (e : GEdit) : GEdit × Bool :=
  if ((app l e).2 != 0) = true then (⟨0, 0, AU 0⟩, false) else
  (if e.kind = 1 then ⟨2, 0, AU e.cell.id⟩
   else match l[(dn l e.cell.id).toNat]? with
    | none => ⟨0, 0, AU 0⟩
    | some o =>
      if e.kind = 2 then ⟨1, dn l e.cell.id, o⟩
      else if e.kind = 3 then ⟨3, dn l e.cell.id, AU e.cell.id⟩
      else if e.kind = 4 then ⟨4, 0, ⟨e.cell.id, 0, 0, o.name, o.code, 0⟩⟩
      else if e.kind = 5 then ⟨5, 0, ⟨e.cell.id, 0, 0, ⟨#[]⟩, ⟨#[]⟩, o.n⟩⟩
      else ⟨6, 0, AU e.cell.id⟩, true)
end Go.Proofs.Ytnongnchpplacaa

namespace Go.Proofs.Ytnongnchpplacaa
open Go.RowKit
set_option linter.unusedSimpArgs false
set_option linter.unusedVariables false
theorem Jl (l : List GCell) (e : GEdit) : (app l e).1.length ≤ max l.length 9 := by
  cases hv : dH l with
  | false => simp [app, hv]; omega
  | true =>
    have := UU l e
    have := kL hv
    omega
theorem Es {l : List GCell} (h : ∀ x ∈ l, x.toD.wf) : D.wfs (l.map GCell.toD) := by
  induction l with
  | nil => trivial
  | cons x l ih => exact ⟨h x (by simp), ih fun y hy => h y (by simp [hy])⟩
theorem uq {l : List GCell} (h : D.wfs (l.map GCell.toD)) {x : GCell} (hx : x ∈ l) : x.toD.wf := by
  obtain ⟨k, hk, rfl⟩ := List.mem_iff_getElem.1 hx
  exact wfs_get h hk
theorem UR {l : List GCell} {e : GEdit} (h : D.wfs (l.map GCell.toD)) (he : e.toD.wf) : D.wfs ((app l e).1.map GCell.toD) := by
  have hc : e.cell.toD.wf := he.2.2.1
  cases hv : (dH l && inR e.kind 1 6) with
  | false => unfold app; rw [hv]; exact h
  | true =>
    have ha : app l e = chg l e := by unfold app; rw [if_pos hv]
    rw [ha]
    simp only [Bool.and_eq_true] at hv
    have hput : ∀ (r : List GCell) (k : Nat) (c : GCell), (∀ x ∈ r, x.toD.wf) → c.toD.wf → ∀ x ∈ oI r k c, x.toD.wf := by
      intro r k c hr hcw x hx
      unfold oI at hx
      simp only [List.mem_append, List.mem_singleton] at hx
      rcases hx with (hx | rfl) | hx
      · exact hr x (List.mem_of_mem_take hx)
      · exact hcw
      · exact hr x (List.mem_of_mem_drop hx)
    have hdrop : ∀ (k : Nat), ∀ x ∈ gQ l k, x.toD.wf := by
      intro k x hx
      unfold gQ at hx
      simp only [List.mem_append] at hx
      rcases hx with hx | hx
      · exact uq h (List.mem_of_mem_take hx)
      · exact uq h (List.mem_of_mem_drop hx)
    unfold chg
    repeat' split
    all_goals first
      | exact h
      | exact Es (hput _ _ _ (fun x hx => uq h hx) hc)
      | exact Es (hdrop _)
      | (refine Es (hput _ _ _ (hdrop _) ?_); rename_i hx _ _; exact uq h (List.mem_of_getElem? (by assumption)))
      | (refine Es fun y hy => ?_
         rename_i x hx _ _ _
         rcases List.mem_or_eq_of_mem_set hy with hy | rfl
         · exact uq h hy
         · have hxm := List.mem_of_getElem? hx
           obtain ⟨k, hk, rfl⟩ := List.mem_iff_getElem.1 hxm
           have hvc := lS hv.1 hk
           refine kF (uq h hxm) he ?_
           unfold dw inR at hvc
           simp only [Bool.and_eq_true, decide_eq_true_eq] at hvc
           omega)
def fV (l : List GCell) (es : List GEdit) : Nat → List GCell × List Int
  | 0 => (l, [])
  | k + 1 => match es[k]? with
    | some e => ((app (fV l es k).1 e).1, (fV l es k).2 ++ [(app (fV l es k).1 e).2])
    | none => fV l es k
theorem jI (l : List GCell) (es : List GEdit) {k : Nat} (h : k < es.length) : fV l es (k + 1) = ((app (fV l es k).1 es[k]).1, (fV l es k).2 ++ [(app (fV l es k).1 es[k]).2]) := by
  rw [fV, List.getElem?_eq_getElem h]
theorem uQ (l : List GCell) (es : List GEdit) : ∀ k, k ≤ es.length → (fV l es k).1.length ≤ max l.length 9 ∧ (fV l es k).2.length = k
  | 0, _ => ⟨by show l.length ≤ _; omega, rfl⟩
  | k + 1, h => by
    obtain ⟨h1, h2⟩ := uQ l es k (by omega)
    have h3 := Jl (fV l es k).1 (es[k]'(by omega))
    rw [jI l es (by omega)]
    refine ⟨by simp only; omega, by simp [h2]⟩
theorem yx {l : List GCell} {es : List GEdit} (h : D.wfs (l.map GCell.toD)) (he : D.wfs (es.map GEdit.toD)) : ∀ k, k ≤ es.length → D.wfs ((fV l es k).1.map GCell.toD)
  | 0, _ => h
  | k + 1, hk => by
    rw [jI l es (by omega)]
    exact UR (yx h he k (by omega)) (D.wfs_get he (List.mem_map_of_mem (f := GEdit.toD) (List.getElem_mem (by omega))))
theorem Tq {P : Program} {f : Nat} {ds l : List D} {e s : Nat} (h : jQ P f ds true l e s) (hf : dW l) : aK P f ds (.c true [.sl true l]) := fun w vs hr ht => (h w vs hr ht).mono fun en w' ⟨v, cs, f', he, h1, h2, h3, h4⟩ => by
  have := hf _ _ _ h2
  subst this
  refine ⟨_, he, ⟨[v], rfl, ⟨⟨_, Sl.jU h1 h2, fun b hb => ?_⟩, trivial⟩⟩, h4⟩
  rw [List.append_nil] at hb
  have := (bH.lt h1 b (by simpa using hb)).1
  exact ⟨mF.2 this, fun _ => Or.inl this⟩
def wO : IC := (.seq (.reg false [⟨(some 2), none, .box (.t 0)⟩, ⟨(some 4), none, .alloc [(.slice none 0 0)]⟩, ⟨(some 5), none, .mov (.k (.slice none 0 0))⟩]) (.seq (.reg false [⟨(some 11), none, .load 1 true (.t 2)⟩, ⟨(some 12), none, .call 38 [(.t 11)]⟩, ⟨(some 6), none, .alloc [(.slice none 0 0)]⟩, ⟨none, none, .store 1 (.t 6) (.t 12)⟩]) (.seq (.reg false [⟨(some 13), none, .brow true 3 1 0 false []⟩, ⟨(some 7), none, .mov (.t 13)⟩]) (.seq (.seq (.reg false [⟨(some 8), none, .mov (.k (.int .i64 0))⟩]) (.block 0 (.loop (.seq (.seq (.reg false [⟨(some 14), none, .mov (.t 8)⟩, ⟨(some 15), none, .mov (.t 1)⟩, ⟨(some 16), none, .len false (.t 15)⟩, ⟨(some 17), none, .bin .lss (.t 14) (.t 16)⟩]) (.cond (.t 17) .skip (.exit 0))) (.seq (.block 1 (.seq (.reg true [⟨(some 21), none, .load 1 true (.t 6)⟩, ⟨(some 22), none, .mov (.t 1)⟩, ⟨(some 23), none, .mov (.t 8)⟩, ⟨(some 24), none, .iad 8 (.t 22) (.t 23)⟩, ⟨(some 25), none, .load 8 true (.t 24)⟩, ⟨(some 26), none, .call 23 [(.t 21), (.t 25)]⟩, ⟨(some 20), none, .mov (.t 26)⟩, ⟨(some 27), none, .ext 0 (.t 20)⟩, ⟨(some 28), none, .ext 1 (.t 20)⟩, ⟨(some 9), none, .alloc [(.slice none 0 0)]⟩, ⟨none, none, .store 1 (.t 9) (.t 27)⟩, ⟨(some 10), none, .mov (.t 28)⟩]) (.seq (.reg false [⟨(some 29), none, .load 1 true (.t 9)⟩, ⟨none, none, .store 1 (.t 6) (.t 29)⟩]) (.reg false [⟨(some 30), none, .mov (.t 7)⟩, ⟨(some 31), none, .mov (.t 10)⟩, ⟨(some 32), none, .brow false 3 1 1 false [(.t 31)]⟩, ⟨(some 33), none, .app 3 1 (.t 30) (.t 32)⟩, ⟨(some 7), none, .mov (.t 33)⟩])))) (.reg false [⟨(some 18), none, .mov (.t 8)⟩, ⟨(some 19), none, .bin .add (.t 18) (.k (.int .i64 1))⟩, ⟨(some 8), none, .mov (.t 19)⟩])))))) (.seq (.reg false [⟨(some 34), none, .load 1 true (.t 6)⟩, ⟨(some 35), none, .mov (.t 7)⟩, ⟨none, none, .store 1 (.t 4) (.t 34)⟩, ⟨(some 5), none, .mov (.t 35)⟩]) .ret)))))
theorem zC : aF Try.prog (Try.f27.body.getD .skip) = some wO := by kernel_rfl
set_option maxHeartbeats 16000000 in
theorem FP (x : GNb) (es : List GEdit) (hn : x.cells.length ≤ 1048576) (hne : es.length ≤ 1048576) (hwl : D.wfs (x.cells.map GCell.toD)) (hew : D.wfs (es.map GEdit.toD)) : aK Try.prog 27 [x.toD, .sl (es.map GEdit.toD)] (.tup [(true, [.sl true ((fV x.cells es es.length).1.map GCell.toD)]), (false, [.sl true ((fV x.cells es es.length).2.map li)])]) := by
  refine yh (fn := Try.f27) (r := .cell 4 26) (q := .tmp 5) (by kernel_rfl) (by kernel_rfl) (by kernel_rfl) (by kernel_rfl) zC ?_
  have hcp := Tq (bJ x (by omega)) (GCell.dF _)
  change AWP _ _ _ (st0 36 _)
  unfold wO
  refine sS trivial ?_
  repeat' (first | ((with_reducible refine hK _ ?_); clear hK K) | (with_reducible refine ak ?_ ?_) | ((with_reducible refine aU ?_); first | (refine BN hcp trivial ?_ ?_)) | ((with_reducible refine bP ?_); first | (refine uP hcp trivial ?_ ?_)) | ((with_reducible refine aH ?_); refine ss @pkE ?_) | ((with_reducible refine bC ?_); refine sx @pkE ?_) | refine nv ?_ | (refine rD ?_; intro K hK) | (with_reducible (refine cS rfl ?_ ?_) <;> (intro hb hb'; first | (exfalso; omega) | skip)) | exact aY | exact aI)
  refine jP (X := Nat × Nat) (fun q => [.d, .k, .d, .d, .k, .d, .k, .v (.c false [.own 0 q.2]), .v (.c false [.raw (.int .i64 (q.1 : Nat))]), .d, .d, .d, .d, .d, .d, .d, .d, .d, .d, .d, .d, .d, .d, .d, .d, .d, .d, .d, .d, .d, .d, .d, .d, .d, .d, .d]) (fun q => [⟨(fV x.cells es q.1).2.map li, 3, 1, q.2, true⟩]) (fun q bs => [[.sl false (x.cells.map GCell.toD)], [.raw (.slice none 0 0)], [.sl true ((fV x.cells es q.1).1.map GCell.toD)]]) (fun q => q.1 ≤ es.length) (fun q => es.length - q.1) (0, 0) (Nat.zero_le _) ?_ ?_
  · simp [fZ, iR, gI, gJ, AV.fits, AC.fits, FB, eU, fV]
  rintro ⟨k, v⟩ hk
  have hk' : k ≤ es.length := hk
  clear hk
  simp only [FB, eU]
  by_cases hlk : k < es.length
  · obtain ⟨hl1, hl2⟩ := uQ x.cells es k hk'
    have hs := jI x.cells es hlk
    have hc := uX ⟨(fV x.cells es k).1⟩ es[k] (by simp only; omega) (yx hwl hew k hk') (D.wfs_get hew (List.mem_map_of_mem (f := GEdit.toD) (List.getElem_mem hlk)))
    simp only at hc
    repeat' (first | ((with_reducible refine hK _ ?_); clear hK K) | (with_reducible refine ak ?_ ?_) | ((with_reducible refine aU ?_); first | (refine BN hc trivial ?_ ?_)) | ((with_reducible refine bP ?_); first | (refine uP hc trivial ?_ ?_)) | ((with_reducible refine aH ?_); refine ss @pkE ?_) | ((with_reducible refine bC ?_); refine sx @pkE ?_) | refine nv ?_ | (refine rD ?_; intro K hK) | (with_reducible (refine cS rfl ?_ ?_) <;> (intro hb hb'; first | (exfalso; omega) | skip)) | exact aY | exact aI)
    all_goals first
      | (simp only [List.length_map, List.length_append, List.length_cons, List.length_nil]; omega)
      | (refine iU (k + 1, v + 1) ?_ (show k + 1 ≤ es.length by omega) (show es.length - (k + 1) < es.length - k by omega)
         simp [fZ, iR, gI, gJ, AV.fits, AC.fits, FB, eU, hs, li])
  · obtain rfl : k = es.length := by omega
    repeat' (first | ((with_reducible refine hK _ ?_); clear hK K) | (with_reducible refine ak ?_ ?_) | ((with_reducible refine aH ?_); refine ss @pkE ?_) | ((with_reducible refine bC ?_); refine sx @pkE ?_) | refine nv ?_ | (refine rD ?_; intro K hK) | (with_reducible (refine cS rfl ?_ ?_) <;> (intro hb hb'; first | (exfalso; omega) | skip)) | exact aY | exact aI)
    exact aS ⟨⟨1, _, rfl, rfl, ⟨rfl, rfl⟩, trivial⟩, ⟨_, rfl, ⟨_, rfl, rfl, rfl, Or.inl rfl⟩, trivial⟩⟩
def wP : IC := (.seq (.reg false [⟨(some 2), none, .box (.t 0)⟩, ⟨(some 4), none, .alloc [(.slice none 0 0)]⟩, ⟨(some 5), none, .mov (.k (.slice none 0 0))⟩]) (.seq (.reg false [⟨(some 12), none, .load 1 true (.t 2)⟩, ⟨(some 13), none, .call 39 [(.t 12)]⟩, ⟨(some 6), none, .alloc [(.slice none 0 0)]⟩, ⟨none, none, .store 1 (.t 6) (.t 13)⟩]) (.seq (.reg false [⟨(some 14), none, .brow true 3 1 0 false []⟩, ⟨(some 7), none, .mov (.t 14)⟩]) (.seq (.seq (.reg false [⟨(some 15), none, .mov (.t 1)⟩, ⟨(some 16), none, .len false (.t 15)⟩, ⟨(some 17), none, .mov (.k (.int .i64 0))⟩]) (.block 0 (.loop (.seq (.reg false [⟨(some 18), none, .bin .lss (.t 17) (.t 16)⟩]) (.seq (.cond (.t 18) .skip (.exit 0)) (.seq (.block 1 (.seq (.reg false [⟨(some 19), none, .iad 8 (.t 15) (.t 17)⟩, ⟨(some 20), none, .load 8 true (.t 19)⟩, ⟨(some 9), none, .alloc [(.int .i64 0), (.int .i64 0), (.int .i64 0), (.int .i64 0), (.int .i64 0), (.string ⟨#[]⟩), (.string ⟨#[]⟩), (.int .i64 0)]⟩, ⟨none, none, .store 8 (.t 9) (.t 20)⟩]) (.seq (.reg false [⟨(some 22), none, .load 1 true (.t 6)⟩, ⟨(some 23), none, .load 8 true (.t 9)⟩, ⟨(some 24), none, .call 21 [(.t 22), (.t 23)]⟩, ⟨(some 21), none, .mov (.t 24)⟩, ⟨(some 25), none, .ext 0 (.t 21)⟩, ⟨(some 26), none, .ext 1 (.t 21)⟩, ⟨(some 10), none, .alloc [(.slice none 0 0)]⟩, ⟨none, none, .store 1 (.t 10) (.t 25)⟩, ⟨(some 11), none, .mov (.t 26)⟩]) (.seq (.reg false [⟨(some 27), none, .load 1 true (.t 10)⟩, ⟨none, none, .store 1 (.t 6) (.t 27)⟩]) (.reg false [⟨(some 28), none, .mov (.t 7)⟩, ⟨(some 29), none, .mov (.t 11)⟩, ⟨(some 30), none, .brow false 3 1 1 false [(.t 29)]⟩, ⟨(some 31), none, .app 3 1 (.t 28) (.t 30)⟩, ⟨(some 7), none, .mov (.t 31)⟩]))))) (.reg false [⟨(some 32), none, .bin .add (.t 17) (.k (.int .i64 1))⟩, ⟨(some 17), none, .mov (.t 32)⟩]))))))) (.seq (.reg false [⟨(some 33), none, .load 1 true (.t 6)⟩, ⟨(some 34), none, .mov (.t 7)⟩, ⟨none, none, .store 1 (.t 4) (.t 33)⟩, ⟨(some 5), none, .mov (.t 34)⟩]) .ret)))))
theorem zD : aF Try.prog (Try.f26.body.getD .skip) = some wP := by kernel_rfl
set_option maxHeartbeats 16000000 in
theorem Jk (x : GNb) (es : List GEdit) (hn : x.cells.length ≤ 1048576) (hne : es.length ≤ 1048576) (hwl : D.wfs (x.cells.map GCell.toD)) (hew : D.wfs (es.map GEdit.toD)) : mZ Try.prog 26 [x.toD, .sl (es.map GEdit.toD)] (.tup [(true, [.own 0 0]), (false, [.own 1 0])]) [⟨(fV x.cells es es.length).1.map GCell.toD, 31, 6, 0, true⟩, ⟨(fV x.cells es es.length).2.map li, 3, 1, 0, true⟩] := by
  refine yZ (fn := Try.f26) (r := .cell 4 26) (q := .tmp 5) (by kernel_rfl) (by kernel_rfl) (by kernel_rfl) (by kernel_rfl) zD ?_
  have hcp := kG x (by omega)
  change AWP _ _ _ (st0 35 _)
  unfold wP
  refine sS trivial ?_
  repeat' (first | ((with_reducible refine aG ?_); intro K hK) | ((with_reducible refine hK _ ?_); clear hK K) | (with_reducible refine ak ?_ ?_) | ((with_reducible refine aU ?_); first | (refine dK hcp (GCell.el _) ?_ ?_)) | ((with_reducible refine aH ?_); refine ss @pkE ?_) | refine nv ?_ | (with_reducible (refine cS rfl ?_ ?_) <;> (intro hb hb'; first | (exfalso; omega) | skip)) | exact aY | exact aI)
  refine OD (X := Nat × Nat) (fun q => [.d, .d, .d, .d, .k, .d, .k, .v (.c false [.own 1 q.2]), .d, .d, .d, .d, .d, .d, .d, .k, .k, .v (.c false [.raw (.int .i64 (q.1 : Nat))]), .d, .d, .d, .d, .d, .d, .d, .d, .d, .d, .d, .d, .d, .d, .d, .d, .d]) (fun q => [⟨(fV x.cells es q.1).1.map GCell.toD, 31, 6, 0, true⟩, ⟨(fV x.cells es q.1).2.map li, 3, 1, q.2, true⟩]) (fun q bs => [[.sl false (x.cells.map GCell.toD)], [.raw (.slice none 0 0)], [.own 0 0]]) (fun q => q.1 ≤ es.length) (fun q => es.length - q.1) (0, 0) [0, 1] (Nat.zero_le _) ?_ ?_
  · simp [uY, zo, yE, uh, AV.ren, AC.ren, AV.fits, AC.fits, FB, eU, fV]
  rintro ⟨k, v⟩ hk
  have hk' : k ≤ es.length := hk
  clear hk
  simp only [FB, eU]
  by_cases hlk : k < es.length
  · obtain ⟨hl1, hl2⟩ := uQ x.cells es k hk'
    have hs := jI x.cells es hlk
    have hc := FQ ⟨(fV x.cells es k).1⟩ es[k] (by simp only; omega) (yx hwl hew k hk') (D.wfs_get hew (List.mem_map_of_mem (f := GEdit.toD) (List.getElem_mem hlk)))
    simp only at hc
    repeat' (first | ((with_reducible refine aG ?_); intro K hK) | ((with_reducible refine hK _ ?_); clear hK K) | (with_reducible refine ak ?_ ?_) | ((with_reducible refine aU ?_); first | (refine Sr hc rfl (by simp) ?_ ?_)) | ((with_reducible refine aH ?_); refine ss @pkE ?_) | refine nv ?_ | (with_reducible (refine cS rfl ?_ ?_) <;> (intro hb hb'; first | (exfalso; omega) | skip)) | exact aY | exact aI)
    all_goals first
      | (simp only [List.length_map, List.length_append, List.length_cons, List.length_nil]; omega)
      | (refine JE (k + 1, v + 1) [2, 1] ?_ (show k + 1 ≤ es.length by omega) (show es.length - (k + 1) < es.length - k by omega)
         simp [uY, zo, yE, uh, AV.ren, AC.ren, AV.fits, AC.fits, FB, eU, hs, li])
  · obtain rfl : k = es.length := by omega
    repeat' (first | ((with_reducible refine aG ?_); intro K hK) | ((with_reducible refine hK _ ?_); clear hK K) | (with_reducible refine ak ?_ ?_) | ((with_reducible refine aH ?_); refine ss @pkE ?_) | refine nv ?_ | (with_reducible (refine cS rfl ?_ ?_) <;> (intro hb hb'; first | (exfalso; omega) | skip)) | exact aY | exact aI)
    exact aS ⟨[0, 1], by simp, ⟨⟨_, rfl, rfl, Or.inl rfl⟩, ⟨_, rfl, rfl, Or.inl rfl⟩, trivial⟩, ⟨1, _, rfl, rfl, ⟨rfl, rfl, _, rfl, rfl⟩, trivial⟩, ⟨_, rfl, ⟨rfl, rfl, _, rfl, rfl⟩, trivial⟩⟩
def Tf (d : D) (l1 : List D) (w : World) (e : Ending) (w' : World) : Prop := ∃ f0 c0 f1 v1, e = .returned (.tuple #[.agg c0.toArray, v1]) ∧ R w' d f0 c0 ∧ fP w' w.heap.size f0 ∧ Sl w' l1 f1 v1 ∧ fP w' w.heap.size f1 ∧ (∀ x ∈ f0, x ∉ f1) ∧ Below w.heap.size w w'
theorem Qy {P : Program} {f : Nat} {ds l0 l1 : List D} {e0 s0 e1 s1 : Nat} (h : mZ P f ds (.tup [(true, [.own 0 0]), (false, [.own 1 0])]) [⟨l0, e0, s0, 0, true⟩, ⟨l1, e1, s1, 0, true⟩]) (hf0 : dW l0) (hf1 : dW l1) {w : World} {vs : List Value} (hr : Rds w ds vs) (ht : tY w := by first | exact trivial | assumption) :
    Calls P f vs.toArray w (Tf (.agg [.sl l0]) l1 w) := (h w vs hr ht).mono fun en w' ⟨v, om, h1, h2, h3, h4⟩ => by
  obtain ⟨us, rfl, h5⟩ := h3
  match us, h5 with
  | [a, b], ⟨h6, h7, _⟩ =>
    obtain ⟨xs, rfl, h8⟩ := h6
    obtain ⟨⟨_, ob, pb, q1, q2, q3, q4⟩, _⟩ := h7
    match xs, h8 with
    | [x], ⟨⟨_, o, p, g1, g2, g3, g4⟩, _⟩ =>
      simp at g1 q1
      subst g1 q1
      obtain rfl := g4 rfl
      obtain rfl := q4 rfl
      obtain ⟨hol, o2, hnd, _⟩ := h2
      obtain ⟨cs, k1, k2, k3, k4⟩ := o2 0 _ p rfl g2
      obtain ⟨cb, j1, j2, j3, j4⟩ := o2 1 _ pb rfl q2
      have e1 := hf0 _ _ _ k2
      have e2 := hf1 _ _ _ j2
      rw [e1] at k2
      rw [e2] at j2
      have S0 := Sl.jU k1 k2
      have S1 := Sl.jU j1 j2
      refine ⟨_, [p.1], _, pb.1, h1, ?_, fP.jU k1 fP.nil (fun g hg => by simp), S1, fP.jU j1 fP.nil (fun g hg => by simp), ?_, h4⟩
      · rw [mY]
        exact Rs.one S0
      · intro b hb1 hb2
        have hom : om = [p, pb] := by
          match om, hol, g2, q2 with
          | [y, z], _, g2, q2 =>
            simp at g2 q2
            rw [g2, q2]
        rw [hom] at hnd
        simp only [List.flatMap_cons, List.flatMap_nil, List.append_nil] at hnd
        rw [List.nodup_append] at hnd
        simp only [List.append_nil] at hb1 hb2
        exact hnd.2.2 b hb1 b hb2 rfl
end Go.Proofs.Ytnongnchpplacaa

