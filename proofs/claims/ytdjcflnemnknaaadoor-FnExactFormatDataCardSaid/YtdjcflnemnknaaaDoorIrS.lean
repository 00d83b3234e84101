/-
  Calls that turn the caller's own slices and boxes: the end of the callee.
-/
import Derived.Test.YtdjcflnemnknaaaDoorIrF
namespace Go.Proofs.YtdjcflnemnknaaaDoor
open Go.RowKit
set_option linter.unusedSimpArgs false
set_option linter.unusedVariables false
/-- The state at the start of a call that gets pointers to the caller's boxes. -/
def stS (n : Nat) (avs : List AV) (os : List Own) (bs : List (List AC)) : St := ⟨avs ++ List.replicate (n - avs.length) (.c false [.raw undef]), os, bs⟩
theorem avs_get {E : Env} {os : List Own} {w : World} : ∀ {xs : List AV} {vs : List Value}, AVsOk E os w xs vs → xs.length = vs.length ∧ ∀ (t : Nat) (x : AV), xs[t]? = some x → ∃ v, vs[t]? = some v ∧ x.ok E os w v
  | [], [], _ => ⟨rfl, fun t d h => by simp at h⟩
  | x :: xs, v :: vs, h => by
    obtain ⟨h1, h2⟩ := avs_get h.2
    refine ⟨by simp [h1], fun t y hy => ?_⟩
    cases t with
    | zero => simp at hy; subst hy; exact ⟨v, rfl, h.1⟩
    | succ t => simpa using h2 t y (by simpa using hy)
  | [], _ :: _, h => h.elim
  | _ :: _, [], h => h.elim
theorem rel_call {B : Nat} {Xs : List Nat} {G : Org} {w0 : World} {fr : List AV} {os : List Own} {bs : List (List AC)} {E : Env} {a : Act} {w : World} {avs : List AV} {vs : List Value} (h : Rel B Xs G w0 ⟨fr, os, bs⟩ E a w) (hv : AVsOk E os w avs vs) (n : Nat) :
    Rel B Xs ⟨E, os, w⟩ w0 (stS n avs os bs) E { tmps := vs.toArray ++ Array.replicate (n - vs.toArray.size) undef, defers := [] } w where
  eb := h.eb
  ex := h.ex
  sim := Sim.refl _ _ _
  defers := rfl
  size := by
    obtain ⟨hl, _⟩ := avs_get hv
    simp [stS, hl]
  fr := by
    obtain ⟨hl, hg⟩ := avs_get hv
    intro t x hx
    simp only [stS] at hx
    rw [List.getElem?_append] at hx
    simp only [Array.getD_eq_getD_getElem?]
    split at hx
    · next ht =>
      obtain ⟨v, hv, hr⟩ := hg t x hx
      rw [Array.getElem?_append_left (by simp at ht ⊢; omega)]
      simp only [List.getElem?_toArray, hv, Option.getD_some]
      exact hr
    · next ht =>
      rw [List.getElem?_replicate] at hx
      split at hx
      · next hlt =>
        injection hx with hx
        subst hx
        rw [Array.getElem?_append_right (by simp; omega), Array.getElem?_replicate]
        simp only [List.size_toArray, ← hl]
        rw [if_pos hlt]
        exact ⟨rfl, trivial⟩
      · cases hx
  olen := h.olen
  own := h.own
  blen := h.blen
  box := h.box
  nodup := h.nodup
  below := h.below
  base := h.base
theorem frLe_any {n m : Nat} : ∀ (fr : List AV), FrLe n m fr (List.replicate fr.length .any)
  | [] => trivial
  | x :: fr => ⟨Or.inl rfl, frLe_any fr⟩
theorem frLe_one {n m : Nat} {x : AV} (hx : x.fits n m = true) : ∀ (fr : List AV) (t : Nat), fr.getD t .any = x → FrLe n m fr ((List.replicate fr.length AV.any).set t x)
  | [], t, _ => trivial
  | y :: fr, 0, h => ⟨Or.inr ⟨h, hx⟩, frLe_any fr⟩
  | y :: fr, t + 1, h => ⟨Or.inl rfl, frLe_one hx fr t (by simpa using h)⟩
/-- What a call leaves: its result, own slices and boxes. -/
def FinS (rs : List ResultVar) (r : AV) (os' : List Own) (bs' : List (List AC)) (st : St) : Prop :=
  OwnLe st.owns os' ∧ BoxLe st.boxes bs' ∧ (bs'.all fun xs => xs.all (AC.fits os'.length bs'.length)) = true ∧
    (match rs with
     | [] => r = .c false [.raw (.tuple #[])]
     | [.tmp t] => st.fr.getD t .any = r ∧ r.fits os'.length bs'.length = true
     | _ => False)
theorem calls_s {P : Program} {f : Nat} {fn : Func} {code : Code} {ic : IC} {avs : List AV} {os os' : List Own} {bs bs' : List (List AC)} {r : AV} {rs : List ResultVar} (hf : P.funcs[f]? = some fn) (hb : fn.body = some code) (hr : fn.results = rs.toArray) (hc : compC P code = some ic)
    (h1 : os.length ≤ os'.length) (h2 : bs.length ≤ bs'.length) (h : AWPn (os.length, bs.length) P ic (AEnd (FinS rs r os' bs')) (stS fn.ntmps avs os bs)) : CallsS P f avs os bs r os' bs' := by
  intro B Xs G w0 fr E a w vs hR hv
  have hol := hR.olen
  have hbl := hR.blen
  simp only at hol hbl
  refine calls_of_wp hf hb ?_
  have := h code hc B Xs ⟨E, os, w⟩ w0 ⟨Nat.le_refl _, by simp only; omega⟩ E _ w (rel_call hR hv fn.ntmps)
  refine wp_mono this ?_
  rintro e a' w' ⟨st', E', g1, g2⟩
  have fin : FinS rs r os' bs' st' → ∃ v, (results fn a'.tmps).run P w' = .ok v w' ∧ ∃ v' E', Ending.returned v = .returned v' ∧ Rel B Xs ⟨E, os, w⟩ w0 ⟨[], os', bs'⟩ E' { tmps := #[], defers := [] } w' ∧ r.ok E' os' w' v' := by
    rintro ⟨q1, q2, q3, q4⟩
    obtain ⟨r1, k1⟩ := ownLe_spec q1
    obtain ⟨r2, k2⟩ := boxLe_spec q2
    have drop : ∀ {fr' : List AV} {E'' : Env}, Rel B Xs ⟨E, os, w⟩ w0 ⟨fr', os', bs'⟩ E'' a' w' → Rel B Xs ⟨E, os, w⟩ w0 ⟨[], os', bs'⟩ E'' { tmps := #[], defers := [] } w' := fun hh =>
      { eb := hh.eb, ex := hh.ex, sim := hh.sim, defers := rfl, size := rfl, fr := fun t y hy => by simp at hy, olen := hh.olen, own := hh.own, blen := hh.blen, box := hh.box, nodup := hh.nodup, below := hh.below, base := hh.base }
    match rs, q4 with
    | [], q4 =>
      obtain ⟨E'', hh⟩ := g1.weak (st' := ⟨List.replicate st'.fr.length .any, os', bs'⟩) ⟨frLe_any _, ⟨r1, k1⟩, ⟨r2, k2⟩, fun xs hx => List.all_eq_true.1 q3 xs hx⟩ (by simp only; omega) (by simp only; omega)
      subst q4
      exact ⟨_, results_none hr _ P w', _, E'', rfl, drop hh, rfl, trivial⟩
    | [.tmp t], q4 =>
      obtain ⟨E'', hh⟩ := g1.weak (st' := ⟨(List.replicate st'.fr.length .any).set t r, os', bs'⟩) ⟨frLe_one q4.2 _ _ q4.1, ⟨r1, k1⟩, ⟨r2, k2⟩, fun xs hx => List.all_eq_true.1 q3 xs hx⟩ (by simp only; omega) (by simp only; omega)
      refine ⟨_, results_tmp hr _ P w', _, E'', rfl, drop hh, ?_⟩
      have hlen : t < st'.fr.length ∨ r = .any := by
        rcases Nat.lt_or_ge t st'.fr.length with hlt | hge
        · exact Or.inl hlt
        · refine Or.inr ?_
          rw [← q4.1, List.getD_eq_getElem?_getD, List.getElem?_eq_none hge]
          rfl
      rcases hlen with hlt | rfl
      · exact hh.fr t r (by simp only; rw [List.getElem?_set_self (by simpa using hlt)])
      · trivial
  cases e with
  | normal =>
    obtain ⟨v, h3, h4⟩ := fin g2
    exact ⟨g1.defers, v, h3, h4⟩
  | ret =>
    obtain ⟨v, h3, h4⟩ := fin g2
    exact ⟨g1.defers, v, h3, h4⟩
  | _ => exact g2.elim
end Go.Proofs.YtdjcflnemnknaaaDoor
