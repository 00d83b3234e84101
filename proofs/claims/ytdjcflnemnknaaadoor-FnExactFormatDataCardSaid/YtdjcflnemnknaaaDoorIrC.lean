/-
  What is left to be shown at a list of steps; plain regions.
-/
import Derived.Test.YtdjcflnemnknaaaDoorIrB
namespace Go.Proofs.YtdjcflnemnknaaaDoor
open Go.RowKit
set_option linter.unusedSimpArgs false
set_option linter.unusedVariables false

/-- Values that are as told. -/
def AVsOk (E : Env) (os : List Own) (w : World) : List AV → List Value → Prop
  | [], [] => True
  | x :: xs, v :: vs => x.ok E os w v ∧ AVsOk E os w xs vs
  | _, _ => False
/-- A call that may turn the caller's own slices and boxes. -/
def CallsS (P : Program) (f : Nat) (avs : List AV) (os : List Own) (bs : List (List AC)) (r : AV) (os' : List Own) (bs' : List (List AC)) : Prop :=
  ∀ (B : Nat) (Xs : List Nat) (G : Org) (w0 : World) (fr : List AV) (E : Env) (a : Act) (w : World) (vs : List Value), Rel B Xs G w0 ⟨fr, os, bs⟩ E a w → AVsOk E os w avs vs →
    Calls P f vs.toArray w fun e w' => ∃ v E', e = .returned v ∧ Rel B Xs ⟨E, os, w⟩ w0 ⟨[], os', bs'⟩ E' { tmps := #[], defers := [] } w' ∧ r.ok E' os' w' v
/-- The same, where the call's end is known in part. -/
def CallsE (P : Program) (f : Nat) (avs : List AV) (os : List Own) (bs : List (List AC)) (post : AV → List Own → List (List AC) → Prop) : Prop :=
  ∀ (B : Nat) (Xs : List Nat) (G : Org) (w0 : World) (fr : List AV) (E : Env) (a : Act) (w : World) (vs : List Value), Rel B Xs G w0 ⟨fr, os, bs⟩ E a w → AVsOk E os w avs vs →
    Calls P f vs.toArray w fun e w' => ∃ v E' r os' bs', post r os' bs' ∧ e = .returned v ∧ Rel B Xs ⟨E, os, w⟩ w0 ⟨[], os', bs'⟩ E' { tmps := #[], defers := [] } w' ∧ r.ok E' os' w' v
theorem CallsS.toE {P : Program} {f : Nat} {avs : List AV} {os os' : List Own} {bs bs' : List (List AC)} {r : AV} (h : CallsS P f avs os bs r os' bs') : CallsE P f avs os bs (fun r2 os2 bs2 => r2 = r ∧ os2 = os' ∧ bs2 = bs') :=
  fun B Xs G w0 fr E a w vs hR hv => (h B Xs G w0 fr E a w vs hR hv).mono fun e w' ⟨v, E', h1, h2, h3⟩ => ⟨v, E', r, os', bs', ⟨rfl, rfl, rfl⟩, h1, h2, h3⟩
theorem CallsE.mono {P : Program} {f : Nat} {avs : List AV} {os : List Own} {bs : List (List AC)} {p q : AV → List Own → List (List AC) → Prop} (h : CallsE P f avs os bs p) (hq : ∀ r os' bs', p r os' bs' → q r os' bs') : CallsE P f avs os bs q :=
  fun B Xs G w0 fr E a w vs hR hv => (h B Xs G w0 fr E a w vs hR hv).mono fun e w' ⟨v, E', r, os', bs', h0, h1, h2, h3⟩ => ⟨v, E', r, os', bs', hq _ _ _ h0, h1, h2, h3⟩
/-- A function with code of its own. -/
def fnOk (P : Program) (f : Nat) : Bool := match P.funcs[f]? with | some fn => !(fn.name == "runtime.NumGoroutine" || fn.body.isNone) | none => false
/-- One step from a state to the next. -/
inductive Step (P : Program) (o : IOp) (st : St) : St → Prop
  | run {r os' bs'} : gdA st o.gd = some true → Res P st.ev st.owns st.boxes o.i r os' bs' → Step P o st (St.put ⟨st.fr, os', bs'⟩ o.d r)
  | skip : gdA st o.gd = some false → Step P o st (st.put o.d (.c false [.raw undef]))
  | storeE {n x y k v j ow dd} : gdA st o.gd = some true → o.i = .store n x y → st.ev x = .eptr k v j 0 → st.owns[k]? = some ow → ow.ver = v → ow.s = n → j < ow.l.length → (st.ev y).toD = some dd → dd.sz = n →
      Step P o st (St.put ⟨st.fr, st.owns.set k ⟨ow.l.set j dd, ow.e, ow.s, ow.ver, ow.nw && (st.ev y).nw⟩, st.boxes⟩ o.d .any)
  | callS {f xs r os' bs'} : gdA st o.gd = some true → o.i = .call f xs → CallsS P f (xs.map st.ev) st.owns st.boxes r os' bs' → Step P o st (St.put ⟨st.fr, os', bs'⟩ o.d r)
  | lslR {s x lo hi k v ow lo' hi' p q} : gdA st o.gd = some true → o.i = .lsl s x lo hi → st.ev x = .c false [.own k v] → st.owns[k]? = some ow → ow.ver = v → ow.s = s → lo.map (fun y => rawI (st.ev y)) = lo'.map some → hi.map (fun y => rawI (st.ev y)) = hi'.map some → subB lo' hi' ow.l.length = some (p, q) →
      Step P o st (St.put ⟨st.fr, st.owns.set k ⟨(ow.l.take q).drop p, ow.e, ow.s, v + 1, ow.nw⟩, st.boxes⟩ o.d (.c false [.own k (v + 1)]))
  | callV {x xs f caps r os' bs'} : gdA st o.gd = some true → o.i = .callv x xs → st.ev x = .c false [.cl f caps] → fnOk P f = true → CallsS P f (xs.map st.ev ++ caps.map fun k => .bptr k 0) st.owns st.boxes r os' bs' → Step P o st (St.put ⟨st.fr, os', bs'⟩ o.d r)

/-- At a part of an own slice: looked at, or put in its place. -/
def LslThen (x y : Prop) : Prop := x ∨ y
theorem lslKeep {x y : Prop} (h : x) : LslThen x y := Or.inl h
theorem lslMove {x y : Prop} (h : y) : LslThen x y := Or.inr h
section
variable (P : Program) (K : St → Prop)
/-- The steps, one behind the other. -/
def sw : List IOp → St → Prop
  | [], st => K st
  | o :: rest, st => match gdA st o.gd with
    | none => False
    | some false => sw rest (st.put o.d (.c false [.raw undef]))
    | some true => match o.i with
      | .iad s x j => (match st.ev x with
        | .c false [.sl n l] => El s l ∧ (match idx l (rawI (st.ev j)) with | some dd => sw rest (st.put o.d (.ptr (dd.acs n))) | none => False)
        | .c false [.own k v] => (match st.owns[k]?, rawI (st.ev j) with | some ow, some z => ow.ver = v ∧ ow.s = s ∧ 0 ≤ z ∧ z.toNat < ow.l.length ∧ sw rest (st.put o.d (.eptr k v z.toNat 0)) | _, _ => False)
        | .c false [.osub k v p q] => (match st.owns[k]?, rawI (st.ev j) with | some ow, some z => ow.ver = v ∧ ow.s = s ∧ 0 ≤ z ∧ z.toNat < q - p ∧ sw rest (st.put o.d (.eptr k v (p + z.toNat) 0)) | _, _ => False)
        | _ => False)
      | .lsl s x lo hi => (match st.ev x, opI st.ev lo, opI st.ev hi with
        | .c false [.sl n l], some a, some b => El s l ∧ (match subB a b l.length with | some (p, q) => sw rest (st.put o.d (.c false [.sl n ((l.take q).drop p)])) | none => False)
        | .c false [.own k v], some a, some b => (match st.owns[k]? with
          | some ow => ow.ver = v ∧ ow.s = s ∧ (match subB a b ow.l.length with
            | some (p, q) => LslThen (sw rest (st.put o.d (.c false [.osub k v p q]))) (sw rest (St.put ⟨st.fr, st.owns.set k ⟨(ow.l.take q).drop p, ow.e, ow.s, v + 1, ow.nw⟩, st.boxes⟩ o.d (.c false [.own k (v + 1)])))
            | none => False)
          | none => False)
        | _, _, _ => False)
      | .call f xs => (∃ ds r, ArgsOk st.owns (xs.map st.ev) ds ∧ CallsTo P f ds r ∧ r.res ∧ sw rest (st.put o.d r)) ∨
          (∃ ds g l e s, ArgsOk st.owns (xs.map st.ev) ds ∧ CallsOwnG P f ds g l e s ∧ El s l ∧ sw rest (St.put ⟨st.fr, st.owns ++ [⟨l, e, s, 0, true⟩], st.boxes⟩ o.d (.c g [.own st.owns.length 0]))) ∨
          (∃ ds r, ArgsOk [] (xs.map st.ev) ds ∧ CallsToA P f ds r ∧ r.old = true ∧ sw rest (st.put o.d r)) ∨
          (∃ ds r os', ArgsOk st.owns (xs.map st.ev) ds ∧ CallsX P f ds r os' ∧ r.out = true ∧ 0 < os'.length ∧ sw rest (St.put ⟨st.fr, st.owns ++ os', st.boxes⟩ o.d (r.shift st.owns.length))) ∨
          (∃ r os' bs', CallsS P f (xs.map st.ev) st.owns st.boxes r os' bs' ∧ sw rest (St.put ⟨st.fr, os', bs'⟩ o.d r)) ∨
          (∃ post : AV → List Own → List (List AC) → Prop, CallsE P f (xs.map st.ev) st.owns st.boxes post ∧ ∀ r os' bs', post r os' bs' → sw rest (St.put ⟨st.fr, os', bs'⟩ o.d r))
      | .callv x xs => (∃ f caps r os' bs', st.ev x = .c false [.cl f caps] ∧ fnOk P f = true ∧ CallsS P f (xs.map st.ev ++ caps.map fun k => .bptr k 0) st.owns st.boxes r os' bs' ∧ sw rest (St.put ⟨st.fr, os', bs'⟩ o.d r))
      | .app e s x y => (match st.ev x, srcOf st.owns (st.ev y) with
        | .c false [.own k v], some (l, n) => (match st.owns[k]? with
          | some ow => ow.ver = v ∧ ow.e = e ∧ ow.s = s ∧ El s l ∧ ow.l.length + l.length ≤ capN s ∧ sw rest (St.put ⟨st.fr, st.owns.set k ⟨ow.l ++ l, e, s, v + 1, ow.nw && n⟩, st.boxes⟩ o.d (.c false [.own k (v + 1)]))
          | none => False)
        | .c false [.osub k v p q], some (l, n) => (match st.owns[k]? with
          | some ow => ow.ver = v ∧ ow.e = e ∧ ow.s = s ∧ El s l ∧ ow.l.length + l.length ≤ capN s ∧ sw rest (St.put ⟨st.fr, st.owns.set k ⟨(ow.l.take q).drop p ++ l, e, s, v + 1, ow.nw && n⟩, st.boxes⟩ o.d (.c false [.own k (v + 1)]))
          | none => False)
        | .c false [.raw (.slice none 0 0)], some (l, n) => El s l ∧ l.length ≤ capN s ∧ sw rest (St.put ⟨st.fr, st.owns ++ [⟨l, e, s, 0, n⟩], st.boxes⟩ o.d (.c false [.own st.owns.length 0]))
        | _, _ => False)
      | .store n x y => (match st.ev x with
        | .eptr k v j 0 => (match st.owns[k]?, (st.ev y).toD with
          | some ow, some dd => ow.ver = v ∧ ow.s = n ∧ j < ow.l.length ∧ dd.sz = n ∧ sw rest (St.put ⟨st.fr, st.owns.set k ⟨ow.l.set j dd, ow.e, ow.s, ow.ver, ow.nw && (st.ev y).nw⟩, st.boxes⟩ o.d .any)
          | _, _ => False)
        | _ => (match ex st.ev st.owns st.boxes (.store n x y) with | some (r, os', bs') => sw rest (St.put ⟨st.fr, os', bs'⟩ o.d r) | none => False))
      | i => (match ex st.ev st.owns st.boxes i with | some (r, os', bs') => sw rest (St.put ⟨st.fr, os', bs'⟩ o.d r) | none => False)
/-- At a call. -/
def CallThen (d : Option Nat) (f : Nat) (avs : List AV) (rest : List IOp) (st : St) : Prop :=
  (∃ ds r, ArgsOk st.owns avs ds ∧ CallsTo P f ds r ∧ r.res ∧ sw P K rest (st.put d r)) ∨
  (∃ ds g l e s, ArgsOk st.owns avs ds ∧ CallsOwnG P f ds g l e s ∧ El s l ∧ sw P K rest (St.put ⟨st.fr, st.owns ++ [⟨l, e, s, 0, true⟩], st.boxes⟩ d (.c g [.own st.owns.length 0]))) ∨
  (∃ ds r, ArgsOk [] avs ds ∧ CallsToA P f ds r ∧ r.old = true ∧ sw P K rest (st.put d r)) ∨
  (∃ ds r os', ArgsOk st.owns avs ds ∧ CallsX P f ds r os' ∧ r.out = true ∧ 0 < os'.length ∧ sw P K rest (St.put ⟨st.fr, st.owns ++ os', st.boxes⟩ d (r.shift st.owns.length))) ∨
  (∃ r os' bs', CallsS P f avs st.owns st.boxes r os' bs' ∧ sw P K rest (St.put ⟨st.fr, os', bs'⟩ d r)) ∨
  (∃ post : AV → List Own → List (List AC) → Prop, CallsE P f avs st.owns st.boxes post ∧ ∀ r os' bs', post r os' bs' → sw P K rest (St.put ⟨st.fr, os', bs'⟩ d r))
/-- At a call of a function value. -/
def CallVThen (d : Option Nat) (x : AV) (avs : List AV) (rest : List IOp) (st : St) : Prop :=
  ∃ f caps r os' bs', x = .c false [.cl f caps] ∧ fnOk P f = true ∧ CallsS P f (avs ++ caps.map fun k => .bptr k 0) st.owns st.boxes r os' bs' ∧ sw P K rest (St.put ⟨st.fr, os', bs'⟩ d r)
end
section
variable {P : Program} {K : St → Prop}
theorem idx_spec {l : List D} {z : Option Int} {d : D} (h : idx l z = some d) : ∃ y, z = some y ∧ 0 ≤ y ∧ l[y.toNat]? = some d := by
  unfold idx at h
  split at h
  · next y =>
    split at h
    · next h0 => exact ⟨y, rfl, h0, h⟩
    · cases h
  · cases h
theorem sw_step {o : IOp} {rest : List IOp} {st : St} (h : sw P K (o :: rest) st) : (∃ st', Step P o st st' ∧ sw P K rest st') ∨ (∃ f xs post, gdA st o.gd = some true ∧ o.i = .call f xs ∧ CallsE P f (xs.map st.ev) st.owns st.boxes post ∧ ∀ r os' bs', post r os' bs' → sw P K rest (St.put ⟨st.fr, os', bs'⟩ o.d r)) := by
  obtain ⟨d, gd, i⟩ := o
  unfold sw at h
  split at h
  · exact h.elim
  · next hg => exact Or.inl ⟨_, .skip hg, h⟩
  · next hg =>
    simp only at h hg
    split at h
    · next s x j =>
      split at h
      · next n l hx =>
        obtain ⟨hel, h⟩ := h
        split at h
        · next dd hi =>
          obtain ⟨y, h1, h2, h3⟩ := idx_spec hi
          exact Or.inl ⟨_, .run hg (.iadS hx h1 h2 h3 hel), h⟩
        · exact h.elim
      · next k v hx =>
        split at h
        · next ow z ho hz =>
          obtain ⟨h1, h2, h3, h4, h⟩ := h
          exact Or.inl ⟨_, .run hg (.iadO hx hz h3 ho h1 h4 h2), h⟩
        · exact h.elim
      · next k v p q hx =>
        split at h
        · next ow z ho hz =>
          obtain ⟨h1, h2, h3, h4, h⟩ := h
          exact Or.inl ⟨_, .run hg (.iadU hx hz h3 ho h1 h4 h2), h⟩
        · exact h.elim
      · exact h.elim
    · next s x lo hi =>
      split at h
      · next n l a b hx hlo hhi =>
        obtain ⟨hel, h⟩ := h
        split at h
        · next p q hs => exact Or.inl ⟨_, .run hg (.lsl hx (opI_spec hlo) (opI_spec hhi) hs hel), h⟩
        · exact h.elim
      · next k v a b hx hlo hhi =>
        split at h
        · next ow ho =>
          obtain ⟨h1, h2, h⟩ := h
          split at h
          · next p q hs =>
            rcases h with h | h
            · exact Or.inl ⟨_, .run hg (.lslO hx ho h1 h2 (opI_spec hlo) (opI_spec hhi) hs), h⟩
            · exact Or.inl ⟨_, .lslR hg rfl hx ho h1 h2 (opI_spec hlo) (opI_spec hhi) hs, h⟩
          · exact h.elim
        · exact h.elim
      · exact h.elim
    · next f xs =>
      rcases h with ⟨ds, r, h1, h2, h3, h4⟩ | ⟨ds, g, l, e, s, h1, h2, h3, h4⟩ | ⟨ds, r, h1, h2, h3, h4⟩ | ⟨ds, r, os', h1, h2, h3, h5, h4⟩ | ⟨r, os', bs', h1, h4⟩ | ⟨post, h1, h4⟩
      · exact Or.inl ⟨_, .run hg (.call h1 h2 h3), h4⟩
      · exact Or.inl ⟨_, .run hg (.callO h1 h2 h3), h4⟩
      · exact Or.inl ⟨_, .run hg (.callA h1 h2 h3), h4⟩
      · exact Or.inl ⟨_, .run hg (.callX h1 h2 h3 h5), h4⟩
      · exact Or.inl ⟨_, .callS hg rfl h1, h4⟩
      · exact Or.inr ⟨f, xs, post, hg, rfl, h1, h4⟩
    · next x xs =>
      obtain ⟨f, caps, r, os', bs', h1, h2, h3, h4⟩ := h
      exact Or.inl ⟨_, .callV hg rfl h1 h2 h3, h4⟩
    · next e s x y =>
      split at h
      · next k v l n hx hs =>
        split at h
        · next ow ho =>
          obtain ⟨h1, h2, h3, h4, h5, h⟩ := h
          exact Or.inl ⟨_, .run hg (.appO hx ho h1 h2 h3 hs h4 h5), h⟩
        · exact h.elim
      · next k v p q l n hx hs =>
        split at h
        · next ow ho =>
          obtain ⟨h1, h2, h3, h4, h5, h⟩ := h
          exact Or.inl ⟨_, .run hg (.appU hx ho h1 h2 h3 hs h4 h5), h⟩
        · exact h.elim
      · next l n hx hs =>
        obtain ⟨h1, h2, h⟩ := h
        exact Or.inl ⟨_, .run hg (.appN hx hs h1 h2), h⟩
      · exact h.elim
    · next n x y =>
      split at h
      · next k v j hx =>
        split at h
        · next ow dd ho hd =>
          obtain ⟨h1, h2, h3, h4, h⟩ := h
          exact Or.inl ⟨_, .storeE hg rfl hx ho h1 h2 h3 hd h4, h⟩
        · exact h.elim
      · split at h
        · next r os' bs' he => exact Or.inl ⟨_, .run hg (ex_res he), h⟩
        · exact h.elim
    · split at h
      · next r os' bs' he => exact Or.inl ⟨_, .run hg (ex_res he), h⟩
      · exact h.elim

/-! The rules, for reckoning. -/
theorem sw_nil {st : St} : sw P K [] st = K st := rfl
theorem sw_guard {d : Option Nat} {g : Nat × Bool} {i : I} {rest : List IOp} {st : St} : sw P K (⟨d, some g, i⟩ :: rest) st = (match gdA st (some g) with
    | none => False
    | some false => sw P K rest (st.put d (.c false [.raw undef]))
    | some true => sw P K (⟨d, none, i⟩ :: rest) st) := by
  rw [sw.eq_2]
  simp only
  cases gdA st (some g) with
  | none => rfl
  | some b => cases b with
    | false => rfl
    | true => rfl
theorem sw_iad {d : Option Nat} {s : Nat} {x j : Opd} {rest : List IOp} {st : St} : sw P K (⟨d, none, .iad s x j⟩ :: rest) st = (match st.ev x with
        | .c false [.sl n l] => El s l ∧ (match idx l (rawI (st.ev j)) with | some dd => sw P K rest (st.put d (.ptr (dd.acs n))) | none => False)
        | .c false [.own k v] => (match st.owns[k]?, rawI (st.ev j) with | some ow, some z => ow.ver = v ∧ ow.s = s ∧ 0 ≤ z ∧ z.toNat < ow.l.length ∧ sw P K rest (st.put d (.eptr k v z.toNat 0)) | _, _ => False)
        | .c false [.osub k v p q] => (match st.owns[k]?, rawI (st.ev j) with | some ow, some z => ow.ver = v ∧ ow.s = s ∧ 0 ≤ z ∧ z.toNat < q - p ∧ sw P K rest (st.put d (.eptr k v (p + z.toNat) 0)) | _, _ => False)
        | _ => False) := rfl
theorem sw_lsl {d : Option Nat} {s : Nat} {x : Opd} {lo hi : Option Opd} {rest : List IOp} {st : St} : sw P K (⟨d, none, .lsl s x lo hi⟩ :: rest) st = (match st.ev x, opI st.ev lo, opI st.ev hi with
        | .c false [.sl n l], some a, some b => El s l ∧ (match subB a b l.length with | some (p, q) => sw P K rest (st.put d (.c false [.sl n ((l.take q).drop p)])) | none => False)
        | .c false [.own k v], some a, some b => (match st.owns[k]? with
          | some ow => ow.ver = v ∧ ow.s = s ∧ (match subB a b ow.l.length with
            | some (p, q) => LslThen (sw P K rest (st.put d (.c false [.osub k v p q]))) (sw P K rest (St.put ⟨st.fr, st.owns.set k ⟨(ow.l.take q).drop p, ow.e, ow.s, v + 1, ow.nw⟩, st.boxes⟩ d (.c false [.own k (v + 1)])))
            | none => False)
          | none => False)
        | _, _, _ => False) := rfl
theorem sw_call {d : Option Nat} {f : Nat} {xs : List Opd} {rest : List IOp} {st : St} : sw P K (⟨d, none, .call f xs⟩ :: rest) st = CallThen P K d f (xs.map st.ev) rest st := rfl
theorem sw_callv {d : Option Nat} {x : Opd} {xs : List Opd} {rest : List IOp} {st : St} : sw P K (⟨d, none, .callv x xs⟩ :: rest) st = CallVThen P K d (st.ev x) (xs.map st.ev) rest st := rfl
theorem callV {d : Option Nat} {f : Nat} {caps : List Nat} {avs : List AV} {rest : List IOp} {st : St} {r : AV} {os' : List Own} {bs' : List (List AC)} (hf : fnOk P f = true) (hc : CallsS P f (avs ++ caps.map fun k => .bptr k 0) st.owns st.boxes r os' bs')
    (h : sw P K rest (St.put ⟨st.fr, os', bs'⟩ d r)) : CallVThen P K d (.c false [.cl f caps]) avs rest st := ⟨f, caps, r, os', bs', rfl, hf, hc, h⟩
theorem sw_app {d : Option Nat} {e s : Nat} {x y : Opd} {rest : List IOp} {st : St} : sw P K (⟨d, none, .app e s x y⟩ :: rest) st = (match st.ev x, srcOf st.owns (st.ev y) with
        | .c false [.own k v], some (l, n) => (match st.owns[k]? with
          | some ow => ow.ver = v ∧ ow.e = e ∧ ow.s = s ∧ El s l ∧ ow.l.length + l.length ≤ capN s ∧ sw P K rest (St.put ⟨st.fr, st.owns.set k ⟨ow.l ++ l, e, s, v + 1, ow.nw && n⟩, st.boxes⟩ d (.c false [.own k (v + 1)]))
          | none => False)
        | .c false [.osub k v p q], some (l, n) => (match st.owns[k]? with
          | some ow => ow.ver = v ∧ ow.e = e ∧ ow.s = s ∧ El s l ∧ ow.l.length + l.length ≤ capN s ∧ sw P K rest (St.put ⟨st.fr, st.owns.set k ⟨(ow.l.take q).drop p ++ l, e, s, v + 1, ow.nw && n⟩, st.boxes⟩ d (.c false [.own k (v + 1)]))
          | none => False)
        | .c false [.raw (.slice none 0 0)], some (l, n) => El s l ∧ l.length ≤ capN s ∧ sw P K rest (St.put ⟨st.fr, st.owns ++ [⟨l, e, s, 0, n⟩], st.boxes⟩ d (.c false [.own st.owns.length 0]))
        | _, _ => False) := rfl
theorem sw_store {d : Option Nat} {n : Nat} {x y : Opd} {rest : List IOp} {st : St} : sw P K (⟨d, none, .store n x y⟩ :: rest) st = (match st.ev x with
        | .eptr k v j 0 => (match st.owns[k]?, (st.ev y).toD with
          | some ow, some dd => ow.ver = v ∧ ow.s = n ∧ j < ow.l.length ∧ dd.sz = n ∧ sw P K rest (St.put ⟨st.fr, st.owns.set k ⟨ow.l.set j dd, ow.e, ow.s, ow.ver, ow.nw && (st.ev y).nw⟩, st.boxes⟩ d .any)
          | _, _ => False)
        | _ => (match ex st.ev st.owns st.boxes (.store n x y) with | some (r, os', bs') => sw P K rest (St.put ⟨st.fr, os', bs'⟩ d r) | none => False)) := rfl
def I.plainW : I → Bool
  | .iad .. => false
  | .lsl .. => false
  | .callv .. => false
  | .call .. => false
  | .app .. => false
  | .store .. => false
  | _ => true
/-- The steps that are reckoned. -/
def I.plain : I → Bool
  | .iad .. => false
  | .lsl .. => false
  | .callv .. => false
  | .call .. => false
  | .app .. => false
  | _ => true
theorem sw_ex {d : Option Nat} {i : I} {rest : List IOp} {st : St} (hi : i.plainW = true) : sw P K (⟨d, none, i⟩ :: rest) st = (match ex st.ev st.owns st.boxes i with | some (r, os', bs') => sw P K rest (St.put ⟨st.fr, os', bs'⟩ d r) | none => False) := by
  cases i <;> first | rfl | cases hi
theorem callThen {d : Option Nat} {f : Nat} {avs : List AV} {rest : List IOp} {st : St} {ds : List D} {r : AV} (hc : CallsTo P f ds r) (hr : r.res) (ha : ArgsOk st.owns avs ds) (h : sw P K rest (st.put d r)) : CallThen P K d f avs rest st :=
  Or.inl ⟨ds, r, ha, hc, hr, h⟩
theorem callOwn {d : Option Nat} {f : Nat} {avs : List AV} {rest : List IOp} {st : St} {ds l : List D} {g : Bool} {e s : Nat} (hc : CallsOwnG P f ds g l e s) (hl : El s l) (ha : ArgsOk st.owns avs ds)
    (h : sw P K rest (St.put ⟨st.fr, st.owns ++ [⟨l, e, s, 0, true⟩], st.boxes⟩ d (.c g [.own st.owns.length 0]))) : CallThen P K d f avs rest st :=
  Or.inr (Or.inl ⟨ds, g, l, e, s, ha, hc, hl, h⟩)
theorem callOld {d : Option Nat} {f : Nat} {avs : List AV} {rest : List IOp} {st : St} {ds : List D} {r : AV} (hc : CallsToA P f ds r) (hr : r.old = true) (ha : ArgsOk [] avs ds) (h : sw P K rest (st.put d r)) : CallThen P K d f avs rest st :=
  Or.inr (Or.inr (Or.inl ⟨ds, r, ha, hc, hr, h⟩))
theorem callOuts {d : Option Nat} {f : Nat} {avs : List AV} {rest : List IOp} {st : St} {ds : List D} {r : AV} {os' : List Own} (hc : CallsX P f ds r os') (hr : r.out = true) (hl : 0 < os'.length) (ha : ArgsOk st.owns avs ds)
    (h : sw P K rest (St.put ⟨st.fr, st.owns ++ os', st.boxes⟩ d (r.shift st.owns.length))) : CallThen P K d f avs rest st :=
  Or.inr (Or.inr (Or.inr (Or.inl ⟨ds, r, os', ha, hc, hr, hl, h⟩)))
theorem callS {d : Option Nat} {f : Nat} {avs : List AV} {rest : List IOp} {st : St} {r : AV} {os' : List Own} {bs' : List (List AC)} (hc : CallsS P f avs st.owns st.boxes r os' bs')
    (h : sw P K rest (St.put ⟨st.fr, os', bs'⟩ d r)) : CallThen P K d f avs rest st :=
  Or.inr (Or.inr (Or.inr (Or.inr (Or.inl ⟨r, os', bs', hc, h⟩))))
theorem callE {d : Option Nat} {f : Nat} {avs : List AV} {rest : List IOp} {st : St} {post : AV → List Own → List (List AC) → Prop} (hc : CallsE P f avs st.owns st.boxes post)
    (h : ∀ r os' bs', post r os' bs' → sw P K rest (St.put ⟨st.fr, os', bs'⟩ d r)) : CallThen P K d f avs rest st :=
  Or.inr (Or.inr (Or.inr (Or.inr (Or.inr ⟨post, hc, h⟩))))
end

/-! ### The machine's side -/
section
variable {P : Program} {B : Nat} {Xs : List Nat} {G : Org} {w0 : World} {E : Env} {a : Act} {w : World}
theorem compOp_spec {ops : Array Oper} {o : Oper} {io : IOp} (h : compOp P ops o = some io) : comp1 P (ownFlag ops o) o.op = some io.i ∧ io.d = o.dst ∧
    ((o.guard = none ∧ io.gd = none) ∨ ∃ j want g, o.guard = some (j, want) ∧ (ops[j]?).bind (·.dst) = some g ∧ io.gd = some (g, want)) := by
  unfold compOp at h
  split at h
  · next i hi =>
    split at h
    · next hg =>
      injection h with h
      subst h
      exact ⟨hi, rfl, Or.inl ⟨hg, rfl⟩⟩
    · next j want hg =>
      split at h
      · next g hd =>
        injection h with h
        subst h
        exact ⟨hi, rfl, Or.inr ⟨j, want, g, hg, hd, rfl⟩⟩
      · cases h
  · cases h
theorem wanted_of {st : St} {ops : Array Oper} {o : Oper} {io : IOp} (h : Rel B Xs G w0 st E a w) (hc : compOp P ops o = some io) {b : Bool} (hg : gdA st io.gd = some b) : Region.wanted o (yielded ops a.tmps) = b := by
  obtain ⟨_, _, hgd⟩ := compOp_spec hc
  rcases hgd with ⟨h1, h2⟩ | ⟨j, want, g, h1, h2, h3⟩
  · rw [h2] at hg
    simp only [gdA] at hg
    injection hg with hg
    rw [← hg]
    simp [Region.wanted, h1]
  · rw [h3] at hg
    simp only [gdA] at hg
    have hlen := h.size
    split at hg
    · next b' hb =>
      injection hg with hg
      have hlt : g < st.fr.length := by
        rcases Nat.lt_or_ge g st.fr.length with hlt | hge
        · exact hlt
        · rw [List.getD_eq_getElem?_getD, List.getElem?_eq_none hge] at hb; cases hb
      have hlt' : g < a.tmps.size := by rw [hlen]; exact hlt
      have hv := h.fr g _ (List.getElem?_eq_getElem hlt)
      have e1 : st.fr[g] = .c false [.raw (.bool b')] := by rw [← hb, List.getD_eq_getElem?_getD, List.getElem?_eq_getElem hlt]; rfl
      rw [e1] at hv
      have hv' : a.tmps.getD g undef = .bool b' := hv.1
      have ht : a.tmps[g]? = some (.bool b') := by
        rw [Array.getElem?_eq_getElem hlt']
        rw [Array.getD_eq_getD_getElem?, Array.getElem?_eq_getElem hlt'] at hv'
        simpa using hv'
      simp [Region.wanted, h1, yielded, h2, ht, ← hg]
    · next vs hb =>
      injection hg with hg
      have hlt : g < st.fr.length := by
        rcases Nat.lt_or_ge g st.fr.length with hlt | hge
        · exact hlt
        · rw [List.getD_eq_getElem?_getD, List.getElem?_eq_none hge] at hb; cases hb
      have hlt' : g < a.tmps.size := by rw [hlen]; exact hlt
      have hv := h.fr g _ (List.getElem?_eq_getElem hlt)
      have e1 : st.fr[g] = .c false [.raw (.tuple vs)] := by rw [← hb, List.getD_eq_getElem?_getD, List.getElem?_eq_getElem hlt]; rfl
      rw [e1] at hv
      have hv' : a.tmps.getD g undef = .tuple vs := hv.1
      have ht : a.tmps[g]? = some (.tuple vs) := by
        rw [Array.getElem?_eq_getElem hlt']
        rw [Array.getD_eq_getD_getElem?, Array.getElem?_eq_getElem hlt'] at hv'
        simpa using hv'
      simp [Region.wanted, h1, yielded, h2, ht, ← hg]
    · cases hg
theorem avs_vals {st : St} (h : Rel B Xs G w0 st E a w) : ∀ (xs : List Operand), AVsOk E st.owns w (xs.map fun x => st.ev (opd x)) (xs.map a.eval)
  | [] => trivial
  | x :: xs => ⟨ev_ok h x, avs_vals h xs⟩
/-- Behind a call that turned memory. -/
theorem Rel.after {fr : List AV} {os os' : List Own} {bs bs' : List (List AC)} {E' : Env} {a0 : Act} {w' : World} {d : Option Nat} {r : AV} {v : Value} (h : Rel B Xs G w0 ⟨fr, os, bs⟩ E a w) (h' : Rel B Xs ⟨E, os, w⟩ w0 ⟨[], os', bs'⟩ E' a0 w') (hr : r.ok E' os' w' v) :
    Rel B Xs G w0 (St.put ⟨fr, os', bs'⟩ d r) E' (a.put d v) w' where
  eb := h'.eb
  ex := h'.ex
  sim := by rw [stput_owns]; exact h.sim.trans h'.sim
  defers := by rw [put_defers]; exact h.defers
  size := by rw [put_size, stput_len]; exact h.size
  fr := by
    rw [stput_owns]
    exact fr_put (st := ⟨fr, os', bs'⟩) h.size (fun t y hy => (h.fr t y hy).sim h'.sim) hr
  olen := by rw [stput_owns]; exact h'.olen
  own := by rw [stput_owns]; exact h'.own
  blen := by rw [stput_boxes]; exact h'.blen
  box := by rw [stput_boxes, stput_owns]; exact h'.box
  nodup := h'.nodup
  below := h'.below
  base := h'.base
theorem callS_sound {st : St} {op : Op} {own : Bool} {f : Nat} {xs : List Opd} {r : AV} {os' : List Own} {bs' : List (List AC)} {d : Option Nat} {ty : TypeId} {pos : String} {after : Array Edge} {guard : Option (Nat × Bool)} {K : Act → World → Prop} {Q : Exit → Act → World → Prop}
    (hc : comp1 P own op = some (.call f xs)) (h : Rel B Xs G w0 st E a w) (hs : CallsS P f (xs.map st.ev) st.owns st.boxes r os' bs')
    (hK : ∀ E' v w', Rel B Xs G w0 (St.put ⟨st.fr, os', bs'⟩ d r) E' (a.put d v) w' → K (a.put d v) w') : Oper.wp P ⟨d, op, ty, pos, after, guard⟩ a w K Q := by
  have : ∃ args ats fn, op = .call { callee := .value (.func f), args := args, argTypes := ats } ∧ P.funcs[f]? = some fn ∧ (fn.name == "runtime.NumGoroutine" || fn.body.isNone) = false ∧ args.toList.map opd = xs := by
    cases op with
    | call c =>
      obtain ⟨callee, args, ats⟩ := c
      simp only [comp1] at hc
      split at hc
      · next _ f' =>
        split at hc
        · next fn hf =>
          split at hc
          · cases hc
          · next hn =>
            injection hc with hc
            injection hc with h1 h2
            subst h1
            exact ⟨args, ats, fn, rfl, hf, by cases hb : (fn.name == "runtime.NumGoroutine" || fn.body.isNone) <;> simp_all, h2⟩
        · cases hc
      all_goals (repeat' split at hc)
      all_goals first | contradiction | (cases hc; done)
    | _ =>
      simp only [comp1] at hc
      repeat' split at hc
      all_goals first | contradiction | (cases hc; done)
  obtain ⟨args, ats, fn, rfl, hf, hn, rfl⟩ := this
  refine wp_call hf hn ((hs B Xs G w0 st.fr E a w _ h (by rw [List.map_map]; exact avs_vals h args.toList)).mono ?_)
  rintro e w' ⟨v, E', rfl, h1, h2⟩
  exact ⟨v, rfl, hK E' v w' (h.after h1 h2)⟩
theorem callE_sound {st : St} {op : Op} {own : Bool} {f : Nat} {xs : List Opd} {post : AV → List Own → List (List AC) → Prop} {d : Option Nat} {ty : TypeId} {pos : String} {after : Array Edge} {guard : Option (Nat × Bool)} {K : Act → World → Prop} {Q : Exit → Act → World → Prop}
    (hc : comp1 P own op = some (.call f xs)) (h : Rel B Xs G w0 st E a w) (hs : CallsE P f (xs.map st.ev) st.owns st.boxes post)
    (hK : ∀ r os' bs', post r os' bs' → ∀ E' v w', Rel B Xs G w0 (St.put ⟨st.fr, os', bs'⟩ d r) E' (a.put d v) w' → K (a.put d v) w') : Oper.wp P ⟨d, op, ty, pos, after, guard⟩ a w K Q := by
  have : ∃ args ats fn, op = .call { callee := .value (.func f), args := args, argTypes := ats } ∧ P.funcs[f]? = some fn ∧ (fn.name == "runtime.NumGoroutine" || fn.body.isNone) = false ∧ args.toList.map opd = xs := by
    cases op with
    | call c =>
      obtain ⟨callee, args, ats⟩ := c
      simp only [comp1] at hc
      split at hc
      · next _ f' =>
        split at hc
        · next fn hf =>
          split at hc
          · cases hc
          · next hn =>
            injection hc with hc
            injection hc with h1 h2
            subst h1
            exact ⟨args, ats, fn, rfl, hf, by cases hb : (fn.name == "runtime.NumGoroutine" || fn.body.isNone) <;> simp_all, h2⟩
        · cases hc
      all_goals (repeat' split at hc)
      all_goals first | contradiction | (cases hc; done)
    | _ =>
      simp only [comp1] at hc
      repeat' split at hc
      all_goals first | contradiction | (cases hc; done)
  obtain ⟨args, ats, fn, rfl, hf, hn, rfl⟩ := this
  refine wp_call hf hn ((hs B Xs G w0 st.fr E a w _ h (by rw [List.map_map]; exact avs_vals h args.toList)).mono ?_)
  rintro e w' ⟨v, E', r, os', bs', h0, rfl, h1, h2⟩
  exact ⟨v, rfl, hK r os' bs' h0 E' v w' (h.after h1 h2)⟩
theorem wp_enter {o : Oper} {f : Nat} {vs : Array Value} {K : Act → World → Prop} {Q : Exit → Act → World → Prop} (hrun : (execOp a.eval o).run P w = .ok (.enter f vs) w)
    (h : Calls P f vs w fun e w' => ∃ v, e = .returned v ∧ K (a.put o.dst v) w') : o.wp P a w K Q := by
  unfold Oper.wp
  rw [hrun, Oper.upon_enter]
  refine h.mono ?_
  rintro e w' ⟨v, rfl, hK⟩
  exact hK
theorem caps_vals {os : List Own} : ∀ {caps : List Nat} {ps : List (Nat × TypeId)}, caps.map (fun k => E.bm[k]?) = ps.map some → AVsOk E os w (caps.map fun k => .bptr k 0) (ps.map fun p => .pointer (some ⟨p.1, 0, none⟩))
  | [], [], _ => trivial
  | k :: caps, p :: ps, h => by
    simp only [List.map_cons, List.cons.injEq] at h
    exact ⟨⟨p, h.1, rfl⟩, caps_vals h.2⟩
  | [], _ :: _, h => by simp at h
  | _ :: _, [], h => by simp at h
theorem avs_append {os : List Own} {ys : List AV} {us : List Value} (h2 : AVsOk E os w ys us) : ∀ {xs : List AV} {vs : List Value}, AVsOk E os w xs vs → AVsOk E os w (xs ++ ys) (vs ++ us)
  | [], [], _ => h2
  | x :: xs, v :: vs, h => ⟨h.1, avs_append h2 h.2⟩
  | [], _ :: _, h => h.elim
  | _ :: _, [], h => h.elim
theorem callV_sound {st : St} {op : Op} {own : Bool} {f : Nat} {caps : List Nat} {x : Opd} {xs : List Opd} {r : AV} {os' : List Own} {bs' : List (List AC)} {d : Option Nat} {ty : TypeId} {pos : String} {after : Array Edge} {guard : Option (Nat × Bool)} {K : Act → World → Prop} {Q : Exit → Act → World → Prop}
    (hc : comp1 P own op = some (.callv x xs)) (h : Rel B Xs G w0 st E a w) (hx : st.ev x = .c false [.cl f caps]) (hf : fnOk P f = true) (hs : CallsS P f (xs.map st.ev ++ caps.map fun k => .bptr k 0) st.owns st.boxes r os' bs')
    (hK : ∀ E' v w', Rel B Xs G w0 (St.put ⟨st.fr, os', bs'⟩ d r) E' (a.put d v) w' → K (a.put d v) w') : Oper.wp P ⟨d, op, ty, pos, after, guard⟩ a w K Q := by
  have : ∃ args ats t, op = .call { callee := .value (.tmp t), args := args, argTypes := ats } ∧ x = .t t ∧ args.toList.map opd = xs := by
    cases op with
    | call c =>
      obtain ⟨callee, args, ats⟩ := c
      simp only [comp1] at hc
      split at hc
      case h_4 t =>
        injection hc with hc
        injection hc with h1 h2
        exact ⟨args, ats, _, rfl, h1.symm, h2⟩
      all_goals (repeat' split at hc)
      all_goals first | contradiction | (cases hc; done)
    | _ =>
      simp only [comp1] at hc
      repeat' split at hc
      all_goals first | contradiction | (cases hc; done)
  obtain ⟨args, ats, t, rfl, rfl, rfl⟩ := this
  have hv := ev_ok h (.tmp t)
  simp only [opd] at hv
  rw [hx] at hv
  obtain ⟨ps, h1, h2⟩ := hv.1
  simp only [Act.eval] at h2
  unfold fnOk at hf
  split at hf
  · next fn hfn =>
    simp only [Bool.not_eq_true', Bool.or_eq_false_iff] at hf
    have hn1 : ¬ fn.name = "runtime.NumGoroutine" := by simpa using hf.1
    have hn2 : ¬ fn.body = none := by intro e0; have := hf.2; rw [e0] at this; simp at this
    have hrun : (execOp a.eval ⟨d, .call { callee := .value (.tmp t), args := args, argTypes := ats }, ty, pos, after, guard⟩).run P w = .ok (.enter f (args.toList.map a.eval ++ ps.map fun p => Value.pointer (some ⟨p.1, 0, none⟩)).toArray) w := by
      have e1 : args.map a.eval = (args.toList.map a.eval).toArray := by apply Array.ext'; simp
      simp [execOp, resolve, Deferred.ofValue, invoke, callFunc, Act.eval, h2, hfn, hn1, hn2, e1]
    have hc2 := hs B Xs G w0 st.fr E a w _ h (avs_append (caps_vals h1) (by rw [List.map_map]; exact avs_vals h args.toList))
    exact wp_enter hrun (hc2.mono fun e w' ⟨v, E', he, h3, h4⟩ => ⟨v, he, hK E' v w' (h.after h3 h4)⟩)
  · cases hf
/-- One step, at whatever place of whatever list. -/
theorem step_wp {st st' : St} {ops : Array Oper} {o : Oper} {io : IOp} {K : Act → World → Prop} {Q : Exit → Act → World → Prop} (h : Rel B Xs G w0 st E a w) (hc : compOp P ops o = some io) (hs : Step P io st st')
    (hK : ∀ E' a' w', Rel B Xs G w0 st' E' a' w' → K a' w') : if Region.wanted o (yielded ops a.tmps) then o.wp P a w K Q else K (a.put o.dst undef) w := by
  obtain ⟨h1, h2, _⟩ := compOp_spec hc
  obtain ⟨fr, os, bs⟩ := st
  cases hs with
  | run hg hr =>
    rw [wanted_of h hc hg, if_pos rfl]
    obtain ⟨dst, op, ty, pos, after, guard⟩ := o
    refine step_sound h1 h hr K (fun E' v w' hR => hK E' _ w' ?_)
    rw [h2]
    exact hR
  | storeE hg hi hx ho hv hs hj hy hd =>
    rw [wanted_of h hc hg, if_pos rfl]
    obtain ⟨dst, op, ty, pos, after, guard⟩ := o
    simp only at h2
    rw [hi] at h1
    refine storeE_sound h1 h hx ho hv hs hj hy hd (fun E' w' hR => hK E' _ w' ?_)
    rw [h2]
    exact hR
  | callS hg hi hs =>
    rw [wanted_of h hc hg, if_pos rfl]
    obtain ⟨dst, op, ty, pos, after, guard⟩ := o
    simp only at h2
    rw [hi] at h1
    refine callS_sound h1 h hs (fun E' v w' hR => hK E' _ w' ?_)
    rw [h2]
    exact hR
  | lslR hg hi hx ho hv hs hlo hhi hb =>
    rw [wanted_of h hc hg, if_pos rfl]
    obtain ⟨dst, op, ty, pos, after, guard⟩ := o
    simp only at h2
    rw [hi] at h1
    subst hv
    refine lslR_sound h1 h hx ho rfl hs hlo hhi hb (fun E' u hR => hK E' _ w ?_)
    rw [h2]
    exact hR
  | callV hg hi hx hf hs =>
    rw [wanted_of h hc hg, if_pos rfl]
    obtain ⟨dst, op, ty, pos, after, guard⟩ := o
    simp only at h2
    rw [hi] at h1
    refine callV_sound h1 h hx hf hs (fun E' v w' hR => hK E' _ w' ?_)
    rw [h2]
    exact hR
  | skip hg =>
    rw [wanted_of h hc hg, if_neg (by simp)]
    refine hK E _ w ?_
    rw [h2]
    exact h.below_put (Below.refl _ _) ⟨rfl, trivial⟩
theorem wpList_sw {ops : Array Oper} {K : St → Prop} {Q : Exit → Act → World → Prop} (hQ : ∀ st' E' a' w', Rel B Xs G w0 st' E' a' w' → K st' → Q .normal a' w') :
    ∀ (l : List Oper) (is : List IOp) (st : St) (E : Env) (a : Act) (w : World), compOps P ops l = some is → Rel B Xs G w0 st E a w → sw P K is st → wpList P ops Q l a w
  | [], is, st, E, a, w, hc, h, hs => by
    injection hc with hc
    subst hc
    exact hQ st E a w h hs
  | o :: l, is, st, E, a, w, hc, h, hs => by
    rw [compOps] at hc
    split at hc
    · next i is' h1 h2 =>
      injection hc with hc
      subst hc
      have go : (if Region.wanted o (yielded ops a.tmps) then o.wp P a w (wpList P ops Q l) Q else wpList P ops Q l (a.put o.dst undef) w) → wpList P ops Q (o :: l) a w := by
        intro this
        unfold wpList
        split
        · next hw => rw [if_pos hw] at this; exact Or.inl this
        · next hw => rw [if_neg hw] at this; exact this
      rcases sw_step hs with ⟨st', h3, h4⟩ | ⟨f, xs, post, hg, hi, hc, h4⟩
      · exact go (step_wp (Q := Q) (K := wpList P ops Q l) h h1 h3 (fun E' a' w' hR => wpList_sw hQ l is' st' E' a' w' h2 hR h4))
      · refine go ?_
        obtain ⟨c1, c2, _⟩ := compOp_spec h1
        rw [wanted_of h h1 hg, if_pos rfl]
        obtain ⟨dst, op, ty, pos, after, guard⟩ := o
        simp only at c2
        rw [hi] at c1
        refine callE_sound c1 h hc (fun r os' bs' h0 E' v w' hR => ?_)
        refine wpList_sw hQ l is' (St.put ⟨st.fr, os', bs'⟩ i.d r) E' _ w' h2 ?_ (h4 r os' bs' h0)
        rw [c2]
        exact hR
    · cases hc
end
end Go.Proofs.YtdjcflnemnknaaaDoor
