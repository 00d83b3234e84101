/-
  What is left to be shown at the steps of a region that draws.
-/
import Derived.Test.YtdjcflnemnknaaaDoorIrD
namespace Go.Proofs.YtdjcflnemnknaaaDoor
open Go.RowKit
set_option linter.unusedSimpArgs false
set_option linter.unusedVariables false
section
variable (P : Program) (m : Bool) (K : St → Prop)
def sd : List IOp → St → Prop
  | [], st => K st
  | o :: rest, st => match gdA st o.gd with
    | none => False
    | some false => sd rest (st.put o.d (.c false [.raw undef]))
    | some true => match o.i with
      | .iad s x j => (match st.ev x with
        | .c false [.sl n l] => El s l ∧ (match idx l (rawI (st.ev j)) with | some dd => sd rest (st.put o.d (.ptr (dd.acs n))) | none => False)
        | .c false [.own k v] => (match (mo m st)[k]?, rawI (st.ev j) with | some ow, some z => ow.ver = v ∧ ow.s = s ∧ 0 ≤ z ∧ z.toNat < ow.l.length ∧ sd rest (st.put o.d (.eptr k v z.toNat 0)) | _, _ => False)
        | .c false [.osub k v p q] => (match (mo m st)[k]?, rawI (st.ev j) with | some ow, some z => ow.ver = v ∧ ow.s = s ∧ 0 ≤ z ∧ z.toNat < q - p ∧ sd rest (st.put o.d (.eptr k v (p + z.toNat) 0)) | _, _ => False)
        | _ => False)
      | .lsl s x lo hi => (match st.ev x, opI st.ev lo, opI st.ev hi with
        | .c false [.sl n l], some a, some b => El s l ∧ (match subB a b l.length with | some (p, q) => sd rest (st.put o.d (.c false [.sl n ((l.take q).drop p)])) | none => False)
        | .c false [.own k v], some a, some b => (match (mo m st)[k]? with | some ow => ow.ver = v ∧ ow.s = s ∧ (match subB a b ow.l.length with | some (p, q) => sd rest (st.put o.d (.c false [.osub k v p q])) | none => False) | none => False)
        | _, _, _ => False)
      | .call f xs => (∃ ds r, ArgsOk (mo m st) (xs.map st.ev) ds ∧ CallsTo P f ds r ∧ r.res ∧ sd rest (st.put o.d r)) ∨ (∃ ds r, ArgsOk [] (xs.map st.ev) ds ∧ CallsToA P f ds r ∧ r.old = true ∧ sd rest (st.put o.d r))
      | .callv x xs => (∃ f caps r os' bs', st.ev x = .c false [.cl f caps] ∧ fnOk P f = true ∧ CallsS P f (xs.map st.ev ++ caps.map fun k => .bptr k 0) st.owns st.boxes r os' bs' ∧ sd rest (St.put ⟨st.fr, os', bs'⟩ o.d r))
      | .app e s x y => (match st.ev x, srcOf st.owns (st.ev y) with
        | .c false [.own k v], some (l, n) => (match st.owns[k]? with
          | some ow => ow.ver = v ∧ ow.e = e ∧ ow.s = s ∧ El s l ∧ ow.l.length + l.length ≤ capN s ∧ sd rest (St.put ⟨st.fr, st.owns.set k ⟨ow.l ++ l, e, s, v + 1, ow.nw && n⟩, st.boxes⟩ o.d (.c false [.own k (v + 1)]))
          | none => False)
        | .c false [.osub k v p q], some (l, n) => (match st.owns[k]? with
          | some ow => ow.ver = v ∧ ow.e = e ∧ ow.s = s ∧ El s l ∧ ow.l.length + l.length ≤ capN s ∧ sd rest (St.put ⟨st.fr, st.owns.set k ⟨(ow.l.take q).drop p ++ l, e, s, v + 1, ow.nw && n⟩, st.boxes⟩ o.d (.c false [.own k (v + 1)]))
          | none => False)
        | .c false [.raw (.slice none 0 0)], some (l, n) => El s l ∧ l.length ≤ capN s ∧ sd rest (St.put ⟨st.fr, st.owns ++ [⟨l, e, s, 0, n⟩], st.boxes⟩ o.d (.c false [.own st.owns.length 0]))
        | _, _ => False)
      | i => if eff i then (match ex st.ev st.owns st.boxes i with | some (r, os', bs') => sd rest (St.put ⟨st.fr, os', bs'⟩ o.d r) | none => False)
        else (match ex st.ev (mo m st) st.boxes i with | some (r, _, bs') => sd rest (St.put ⟨st.fr, st.owns, bs'⟩ o.d r) | none => False)
/-- At a call of a function value. -/
def CallVThenD (d : Option Nat) (x : AV) (avs : List AV) (rest : List IOp) (st : St) : Prop :=
  ∃ f caps r os' bs', x = .c false [.cl f caps] ∧ fnOk P f = true ∧ CallsS P f (avs ++ caps.map fun k => .bptr k 0) st.owns st.boxes r os' bs' ∧ sd P m K rest (St.put ⟨st.fr, os', bs'⟩ d r)
def CallThenD (d : Option Nat) (f : Nat) (avs : List AV) (rest : List IOp) (st : St) : Prop :=
  (∃ ds r, ArgsOk (mo m st) avs ds ∧ CallsTo P f ds r ∧ r.res ∧ sd P m K rest (st.put d r)) ∨ (∃ ds r, ArgsOk [] avs ds ∧ CallsToA P f ds r ∧ r.old = true ∧ sd P m K rest (st.put d r))
end
section
variable {P : Program} {m : Bool} {K : St → Prop}
theorem ex_os {ρ : Opd → AV} {os os' : List Own} {bs bs' : List (List AC)} {i : I} {r : AV} (h : ex ρ os bs i = some (r, os', bs')) (he : eff i = false) : os' = os := by
  have hr := ex_res (P := default) h
  rcases pure_cls he with c | c | c
  · exact (cls0 hr c).1
  · cases i <;> simp only [I.cls] at c <;> (try (simp at c; done)) <;> (try (simp [ex] at h; done))
    all_goals (cases hr <;> first | rfl | (simp [eff, I.cls] at he; done))
  · exact (cls2 hr c).1
theorem sd_step {o : IOp} {rest : List IOp} {st : St} (h : sd P m K (o :: rest) st) : ∃ st', DStep P m o st st' ∧ sd P m K rest st' := by
  obtain ⟨d, gd, i⟩ := o
  unfold sd at h
  split at h
  · exact h.elim
  · next hg => exact ⟨_, .skip hg, h⟩
  · next hg =>
    simp only at h hg
    split at h
    · next s x j =>
      split at h
      · next n l hx =>
        obtain ⟨hel, h⟩ := h
        split at h
        · next dd hi =>
          obtain ⟨y, h1, h2, h3⟩ := idx_spec hi
          exact ⟨_, .pure hg rfl (.iadS hx h1 h2 h3 hel), h⟩
        · exact h.elim
      · next k v hx =>
        split at h
        · next ow z ho hz =>
          obtain ⟨h1, h2, h3, h4, h⟩ := h
          exact ⟨_, .pure hg rfl (.iadO hx hz h3 ho h1 h4 h2), h⟩
        · exact h.elim
      · next k v p q hx =>
        split at h
        · next ow z ho hz =>
          obtain ⟨h1, h2, h3, h4, h⟩ := h
          exact ⟨_, .pure hg rfl (.iadU hx hz h3 ho h1 h4 h2), h⟩
        · exact h.elim
      · exact h.elim
    · next s x lo hi =>
      split at h
      · next n l a b hx hlo hhi =>
        obtain ⟨hel, h⟩ := h
        split at h
        · next p q hs => exact ⟨_, .pure hg rfl (.lsl hx (opI_spec hlo) (opI_spec hhi) hs hel), h⟩
        · exact h.elim
      · next k v a b hx hlo hhi =>
        split at h
        · next ow ho =>
          obtain ⟨h1, h2, h⟩ := h
          split at h
          · next p q hs => exact ⟨_, .pure hg rfl (.lslO hx ho h1 h2 (opI_spec hlo) (opI_spec hhi) hs), h⟩
          · exact h.elim
        · exact h.elim
      · exact h.elim
    · next f xs =>
      rcases h with ⟨ds, r, h1, h2, h3, h4⟩ | ⟨ds, r, h1, h2, h3, h4⟩
      · exact ⟨_, .pure hg rfl (.call h1 h2 h3), h4⟩
      · exact ⟨_, .pure hg rfl (.callA h1 h2 h3), h4⟩
    · next x xs =>
      obtain ⟨f, caps, r, os', bs', h1, h2, h3, h4⟩ := h
      exact ⟨_, .callV hg rfl h1 h2 h3, h4⟩
    · next e s x y =>
      split at h
      · next k v l n hx hs =>
        split at h
        · next ow ho =>
          obtain ⟨h1, h2, h3, h4, h5, h⟩ := h
          exact ⟨_, .eff hg rfl (.appO hx ho h1 h2 h3 hs h4 h5), h⟩
        · exact h.elim
      · next k v p q l n hx hs =>
        split at h
        · next ow ho =>
          obtain ⟨h1, h2, h3, h4, h5, h⟩ := h
          exact ⟨_, .eff hg rfl (.appU hx ho h1 h2 h3 hs h4 h5), h⟩
        · exact h.elim
      · next l n hx hs =>
        obtain ⟨h1, h2, h⟩ := h
        exact ⟨_, .eff hg rfl (.appN hx hs h1 h2), h⟩
      · exact h.elim
    · split at h
      · next he =>
        split at h
        · next r os' bs' hx => exact ⟨_, .eff hg he (ex_res hx), h⟩
        · exact h.elim
      · next he =>
        have he' : eff i = false := by simpa using he
        split at h
        · next r os' bs' hx =>
          have e1 := ex_os hx he'
          subst e1
          exact ⟨_, .pure hg he' (ex_res hx), h⟩
        · exact h.elim
theorem sd_steps {is : List IOp} : ∀ (l : List IOp) (k : Nat) (st : St), (∀ j, l[j]? = is[k + j]?) → sd P m K l st → ∃ st2, DSteps P m is (List.range' k l.length) st st2 ∧ K st2
  | [], k, st, _, h => ⟨st, .nil, h⟩
  | o :: l, k, st, hl, h => by
    obtain ⟨st1, h1, h2⟩ := sd_step h
    obtain ⟨st2, h3, h4⟩ := sd_steps l (k + 1) st1 (fun j => by have := hl (j + 1); simpa [Nat.add_assoc, Nat.add_comm 1 j] using this) h2
    exact ⟨st2, .cons (by have := hl 0; simpa using this.symm) h1 h3, h4⟩
theorem wp_sd {B : Nat} {Xs : List Nat} {G : Org} {w0 : World} {st : St} {E : Env} {a : Act} {w : World} {id : Nat} {ops : Array Oper} {is : List IOp} {Q : Exit → Act → World → Prop} (hmix : P.follows .mixedOrders = true) (hcomp : compOps P ops ops.toList = some is) (hd : drawB ops.toList is = true)
    (hm : m = is.any fun o => o.i.cls == 3) (hQ : ∀ st' E' a' w', Rel B Xs G w0 st' E' a' w' → K st' → Q .normal a' w') (hs : sd P m K is st) (hR : Rel B Xs G w0 st E a w) : (Code.region id ops true).wp P Q a w := by
  obtain ⟨st2, h1, h2⟩ := sd_steps (is := is) is 0 st (fun j => by simp) hs
  have hl : is.length = ops.size := by rw [(compOps_spec hcomp).1]; simp
  rw [hl, ← List.range_eq_range'] at h1
  refine wp_draw hmix hcomp hd (m := m) (fun j jo hj hc => ?_) hQ h1 h2 hR
  rw [hm]
  exact List.any_eq_true.2 ⟨jo, List.mem_of_getElem? hj, by simp [hc]⟩

/-! The rules, for reckoning. -/
theorem sd_nil {st : St} : sd P m K [] st = K st := rfl
theorem sd_guard {d : Option Nat} {g : Nat × Bool} {i : I} {rest : List IOp} {st : St} : sd P m K (⟨d, some g, i⟩ :: rest) st = (match gdA st (some g) with
    | none => False
    | some false => sd P m K rest (st.put d (.c false [.raw undef]))
    | some true => sd P m K (⟨d, none, i⟩ :: rest) st) := by
  rw [sd.eq_2]
  simp only
  cases gdA st (some g) with
  | none => rfl
  | some b => cases b with
    | false => rfl
    | true => rfl
theorem sd_iad {d : Option Nat} {s : Nat} {x j : Opd} {rest : List IOp} {st : St} : sd P m K (⟨d, none, .iad s x j⟩ :: rest) st = (match st.ev x with
        | .c false [.sl n l] => El s l ∧ (match idx l (rawI (st.ev j)) with | some dd => sd P m K rest (st.put d (.ptr (dd.acs n))) | none => False)
        | .c false [.own k v] => (match (mo m st)[k]?, rawI (st.ev j) with | some ow, some z => ow.ver = v ∧ ow.s = s ∧ 0 ≤ z ∧ z.toNat < ow.l.length ∧ sd P m K rest (st.put d (.eptr k v z.toNat 0)) | _, _ => False)
        | .c false [.osub k v p q] => (match (mo m st)[k]?, rawI (st.ev j) with | some ow, some z => ow.ver = v ∧ ow.s = s ∧ 0 ≤ z ∧ z.toNat < q - p ∧ sd P m K rest (st.put d (.eptr k v (p + z.toNat) 0)) | _, _ => False)
        | _ => False) := rfl
theorem sd_lsl {d : Option Nat} {s : Nat} {x : Opd} {lo hi : Option Opd} {rest : List IOp} {st : St} : sd P m K (⟨d, none, .lsl s x lo hi⟩ :: rest) st = (match st.ev x, opI st.ev lo, opI st.ev hi with
        | .c false [.sl n l], some a, some b => El s l ∧ (match subB a b l.length with | some (p, q) => sd P m K rest (st.put d (.c false [.sl n ((l.take q).drop p)])) | none => False)
        | .c false [.own k v], some a, some b => (match (mo m st)[k]? with | some ow => ow.ver = v ∧ ow.s = s ∧ (match subB a b ow.l.length with | some (p, q) => sd P m K rest (st.put d (.c false [.osub k v p q])) | none => False) | none => False)
        | _, _, _ => False) := rfl
theorem sd_call {d : Option Nat} {f : Nat} {xs : List Opd} {rest : List IOp} {st : St} : sd P m K (⟨d, none, .call f xs⟩ :: rest) st = CallThenD P m K d f (xs.map st.ev) rest st := rfl
theorem sd_callv {d : Option Nat} {x : Opd} {xs : List Opd} {rest : List IOp} {st : St} : sd P m K (⟨d, none, .callv x xs⟩ :: rest) st = CallVThenD P m K d (st.ev x) (xs.map st.ev) rest st := rfl
theorem callVD {d : Option Nat} {f : Nat} {caps : List Nat} {avs : List AV} {rest : List IOp} {st : St} {r : AV} {os' : List Own} {bs' : List (List AC)} (hf : fnOk P f = true) (hc : CallsS P f (avs ++ caps.map fun k => .bptr k 0) st.owns st.boxes r os' bs')
    (h : sd P m K rest (St.put ⟨st.fr, os', bs'⟩ d r)) : CallVThenD P m K d (.c false [.cl f caps]) avs rest st := ⟨f, caps, r, os', bs', rfl, hf, hc, h⟩
theorem sd_app {d : Option Nat} {e s : Nat} {x y : Opd} {rest : List IOp} {st : St} : sd P m K (⟨d, none, .app e s x y⟩ :: rest) st = (match st.ev x, srcOf st.owns (st.ev y) with
        | .c false [.own k v], some (l, n) => (match st.owns[k]? with
          | some ow => ow.ver = v ∧ ow.e = e ∧ ow.s = s ∧ El s l ∧ ow.l.length + l.length ≤ capN s ∧ sd P m K rest (St.put ⟨st.fr, st.owns.set k ⟨ow.l ++ l, e, s, v + 1, ow.nw && n⟩, st.boxes⟩ d (.c false [.own k (v + 1)]))
          | none => False)
        | .c false [.osub k v p q], some (l, n) => (match st.owns[k]? with
          | some ow => ow.ver = v ∧ ow.e = e ∧ ow.s = s ∧ El s l ∧ ow.l.length + l.length ≤ capN s ∧ sd P m K rest (St.put ⟨st.fr, st.owns.set k ⟨(ow.l.take q).drop p ++ l, e, s, v + 1, ow.nw && n⟩, st.boxes⟩ d (.c false [.own k (v + 1)]))
          | none => False)
        | .c false [.raw (.slice none 0 0)], some (l, n) => El s l ∧ l.length ≤ capN s ∧ sd P m K rest (St.put ⟨st.fr, st.owns ++ [⟨l, e, s, 0, n⟩], st.boxes⟩ d (.c false [.own st.owns.length 0]))
        | _, _ => False) := rfl
theorem sd_exP {d : Option Nat} {i : I} {rest : List IOp} {st : St} (hi : i.plain = true) (he : eff i = false) : sd P m K (⟨d, none, i⟩ :: rest) st = (match ex st.ev (mo m st) st.boxes i with | some (r, _, bs') => sd P m K rest (St.put ⟨st.fr, st.owns, bs'⟩ d r) | none => False) := by
  have : sd P m K (⟨d, none, i⟩ :: rest) st = if eff i then (match ex st.ev st.owns st.boxes i with | some (r, os', bs') => sd P m K rest (St.put ⟨st.fr, os', bs'⟩ d r) | none => False)
        else (match ex st.ev (mo m st) st.boxes i with | some (r, _, bs') => sd P m K rest (St.put ⟨st.fr, st.owns, bs'⟩ d r) | none => False) := by
    cases i <;> first | rfl | cases hi
  rw [this, he]
  rfl
theorem sd_exE {d : Option Nat} {i : I} {rest : List IOp} {st : St} (hi : i.plain = true) (he : eff i = true) : sd P m K (⟨d, none, i⟩ :: rest) st = (match ex st.ev st.owns st.boxes i with | some (r, os', bs') => sd P m K rest (St.put ⟨st.fr, os', bs'⟩ d r) | none => False) := by
  have : sd P m K (⟨d, none, i⟩ :: rest) st = if eff i then (match ex st.ev st.owns st.boxes i with | some (r, os', bs') => sd P m K rest (St.put ⟨st.fr, os', bs'⟩ d r) | none => False)
        else (match ex st.ev (mo m st) st.boxes i with | some (r, _, bs') => sd P m K rest (St.put ⟨st.fr, st.owns, bs'⟩ d r) | none => False) := by
    cases i <;> first | rfl | cases hi
  rw [this, he]
  rfl
theorem callThenD {d : Option Nat} {f : Nat} {avs : List AV} {rest : List IOp} {st : St} {ds : List D} {r : AV} (hc : CallsTo P f ds r) (hr : r.res) (ha : ArgsOk (mo m st) avs ds) (h : sd P m K rest (st.put d r)) : CallThenD P m K d f avs rest st :=
  Or.inl ⟨ds, r, ha, hc, hr, h⟩
theorem callOldD {d : Option Nat} {f : Nat} {avs : List AV} {rest : List IOp} {st : St} {ds : List D} {r : AV} (hc : CallsToA P f ds r) (hr : r.old = true) (ha : ArgsOk [] avs ds) (h : sd P m K rest (st.put d r)) : CallThenD P m K d f avs rest st :=
  Or.inr ⟨ds, r, ha, hc, hr, h⟩
end
end Go.Proofs.YtdjcflnemnknaaaDoor
