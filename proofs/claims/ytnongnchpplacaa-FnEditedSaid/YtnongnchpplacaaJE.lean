/-
  Texts joined: IrE IrF IrT Ty IrG IrL IrS IrW IrR IrN IrU IrV IrX.
-/
import Derived.Test.YtnongnchpplacaaJD
import Derived.Test.YtnongnchpplacaaJA
namespace Go.Proofs.Ytnongnchpplacaa
open Go.RowKit
set_option linter.unusedSimpArgs false
set_option linter.unusedVariables false
inductive IC where
  | reg (dr : Bool) (ops : List IOp)
  | regN (b : Bool) (Ts : List Nat) (ops : List IOp)
  | seq (x y : IC)
  | cond (c : Opd) (x y : IC)
  | block (id : Nat) (x : IC)
  | loop (x : IC)
  | exit (id : Nat)
  | ret
  | skip
def Xn (is : List IOp) : List Nat := (is.filterMap fun o => oM o.i).filter fun t => is.all fun o => match o.d with | some u => u != t | none => true
def WY (is : List IOp) : Bool := is.any fun o => match o.i with
  | .store _ (.t x) _ => is.any fun q => q.d == some x && (match q.i with
    | .iad .. => true
    | .fad _ (.t y) => is.any fun r => r.d == some y && (match r.i with | .iad .. => true | _ => false)
    | _ => false)
  | _ => false
def Uh (ops : List Oper) (is : List IOp) : Option IC :=
  if (vT ops is && !(is.any fun o => o.i.isC)) && !WY is then some (.reg true is)
  else if EM [] ops is then some (.regN (vT ops is) [] is)
  else if EM (Xn is) ops is then some (.regN (vT ops is) (Xn is) is)
  else if vT ops is then some (.reg true is) else none
theorem qg {ops : List Oper} {is : List IOp} {c : IC} (h : Uh ops is = some c) : (c = .reg true is ∧ vT ops is = true) ∨ ∃ Ts, c = .regN (vT ops is) Ts is ∧ EM Ts ops is = true := by
  unfold Uh at h
  split at h
  · next h1 => simp only [Bool.and_eq_true] at h1; injection h with h; exact Or.inl ⟨h.symm, h1.1.1⟩
  · split at h
    · next h1 => injection h with h; exact Or.inr ⟨_, h.symm, h1⟩
    · split at h
      · next h1 => injection h with h; exact Or.inr ⟨_, h.symm, h1⟩
      · split at h
        · next h1 => injection h with h; exact Or.inl ⟨h.symm, h1⟩
        · cases h
def aF (P : Program) : Code → Option IC
  | .region id ops false => (lG P ops ops.toList).map (IC.reg false)
  | .region id ops true => (match lG P ops ops.toList with | some is => if P.follows .mixedOrders then Uh ops.toList is else none | none => none)
  | .seq x y => (match aF P x, aF P y with | some x, some y => some (.seq x y) | _, _ => none)
  | .cond c x y => (match aF P x, aF P y with | some x, some y => some (.cond (opd c) x y) | _, _ => none)
  | .block id x => (aF P x).map (IC.block id)
  | .loop x => (aF P x).map IC.loop
  | .exit id => some (.exit id)
  | .ret => some .ret
  | .skip => some .skip
  | .label _ => some .skip
  | _ => none

theorem oC {P : Program} {id : Nat} {ops : Array Oper} {b : Bool} {c : IC} (h : aF P (.region id ops b) = some c) (hc : ∀ d l, c ≠ .reg d l) (hn : ∀ b T l, c ≠ .regN b T l) : False := by
  cases b with
  | false =>
    simp only [aF] at h
    obtain ⟨l, _, he⟩ := Option.map_eq_some_iff.1 h
    exact hc _ _ he.symm
  | true =>
    simp only [aF] at h
    split at h
    · split at h
      · rcases qg h with ⟨h, _⟩ | ⟨Ts, h, _⟩
        · exact hc _ _ h
        · exact hn _ _ _ h
      · cases h
    · cases h
def eU (lo : Nat × Nat) (P : Program) (c : IC) (Q : Exit → St → Prop) (st : St) : Prop :=
  ∀ (code : Code), aF P code = some c → ∀ (B : Nat) (Xs : List Nat) (G : Org) (w0 : World), (G.os.length ≤ lo.1 ∧ G.E.bm.length ≤ lo.2) → ∀ (E : Env) (a : Act) (w : World), Rel B Xs G w0 st E a w → code.wp P (fun e a' w' => ∃ st' E', Rel B Xs G w0 st' E' a' w' ∧ Q e st') a w
abbrev AWP (P : Program) (c : IC) (Q : Exit → St → Prop) (st : St) : Prop := eU (0, 0) P c Q st
def G8 (lo : Nat × Nat) (P : Program) (y : IC) (Q : Exit → St → Prop) : Exit → St → Prop
  | .normal, st => eU lo P y Q st
  | e, st => Q e st
def zk (id : Nat) (Q : Exit → St → Prop) : Exit → St → Prop
  | .exit id', st => if id' = id then Q .normal st else Q (.exit id') st
  | e, st => Q e st
section
variable {lo : Nat × Nat} {P : Program} {Q : Exit → St → Prop} {st : St}
theorem jG (h : Q .normal st) : eU lo P .skip Q st := fun code hc B Xs G w0 hG E a w hR => by
  cases code with
  | skip => exact wp_skip ⟨st, E, hR, h⟩
  | label l => exact wp_label ⟨st, E, hR, h⟩
  | region id ops b => exact (oC hc (by simp) (by simp)).elim
  | seq x y => simp only [aF] at hc; split at hc <;> simp at hc
  | cond c x y => simp only [aF] at hc; split at hc <;> simp at hc
  | block id x => simp [aF] at hc
  | loop x => simp [aF] at hc
  | exit id => simp [aF] at hc
  | ret => simp [aF] at hc
  | rangeFunc => simp [aF] at hc
  | scope => simp [aF] at hc
  | goto => simp [aF] at hc
  | refuse => simp [aF] at hc
theorem jH {id : Nat} (h : Q (.exit id) st) : eU lo P (.exit id) Q st := fun code hc B Xs G w0 hG E a w hR => by
  cases code with
  | exit id => simp [aF] at hc; subst hc; exact wp_exit ⟨st, E, hR, h⟩
  | skip => simp [aF] at hc
  | label l => simp [aF] at hc
  | region id ops b => exact (oC hc (by simp) (by simp)).elim
  | seq x y => simp only [aF] at hc; split at hc <;> simp at hc
  | cond c x y => simp only [aF] at hc; split at hc <;> simp at hc
  | block id x => simp [aF] at hc
  | loop x => simp [aF] at hc
  | ret => simp [aF] at hc
  | rangeFunc => simp [aF] at hc
  | scope => simp [aF] at hc
  | goto => simp [aF] at hc
  | refuse => simp [aF] at hc
theorem kP (h : Q .ret st) : eU lo P .ret Q st := fun code hc B Xs G w0 hG E a w hR => by
  cases code with
  | ret => exact wp_ret ⟨st, E, hR, h⟩
  | exit id => simp [aF] at hc
  | skip => simp [aF] at hc
  | label l => simp [aF] at hc
  | region id ops b => exact (oC hc (by simp) (by simp)).elim
  | seq x y => simp only [aF] at hc; split at hc <;> simp at hc
  | cond c x y => simp only [aF] at hc; split at hc <;> simp at hc
  | block id x => simp [aF] at hc
  | loop x => simp [aF] at hc
  | rangeFunc => simp [aF] at hc
  | scope => simp [aF] at hc
  | goto => simp [aF] at hc
  | refuse => simp [aF] at hc
theorem kN {x y : IC} (h : eU lo P x (G8 lo P y Q) st) : eU lo P (.seq x y) Q st := fun code hc B Xs G w0 hG E a w hR => by
  cases code with
  | seq cx cy =>
    simp only [aF] at hc
    split at hc
    · next x' y' hx hy =>
      simp only [Option.some.injEq, IC.seq.injEq] at hc
      obtain ⟨rfl, rfl⟩ := hc
      refine wp_seq (wp_mono (h cx hx B Xs G w0 hG E a w hR) ?_)
      rintro e a' w' ⟨st', E', h1, h2⟩
      cases e with
      | normal => exact h2 cy hy B Xs G w0 hG E' a' w' h1
      | _ => exact ⟨st', E', h1, h2⟩
    · cases hc
  | ret => simp [aF] at hc
  | exit id => simp [aF] at hc
  | skip => simp [aF] at hc
  | label l => simp [aF] at hc
  | region id ops b => exact (oC hc (by simp) (by simp)).elim
  | cond c x y => simp only [aF] at hc; split at hc <;> simp at hc
  | block id x => simp [aF] at hc
  | loop x => simp [aF] at hc
  | rangeFunc => simp [aF] at hc
  | scope => simp [aF] at hc
  | goto => simp [aF] at hc
  | refuse => simp [aF] at hc
theorem Dh {c : Opd} {x y : IC} {b : Bool} (hb : st.ev c = .c false [.raw (.bool b)]) (h1 : b = true → eU lo P x Q st) (h2 : b = false → eU lo P y Q st) : eU lo P (.cond c x y) Q st := fun code hc B Xs G w0 hG E a w hR => by
  cases code with
  | cond o cx cy =>
    simp only [aF] at hc
    split at hc
    · next x' y' hx hy =>
      simp only [Option.some.injEq, IC.cond.injEq] at hc
      obtain ⟨rfl, rfl, rfl⟩ := hc
      have he := dM hR hb
      cases b with
      | true => exact wp_cond_true he (h1 rfl cx hx B Xs G w0 hG E a w hR)
      | false => exact wp_cond_false he (h2 rfl cy hy B Xs G w0 hG E a w hR)
    · cases hc
  | seq x y => simp only [aF] at hc; split at hc <;> simp at hc
  | ret => simp [aF] at hc
  | exit id => simp [aF] at hc
  | skip => simp [aF] at hc
  | label l => simp [aF] at hc
  | region id ops b => exact (oC hc (by simp) (by simp)).elim
  | block id x => simp [aF] at hc
  | loop x => simp [aF] at hc
  | rangeFunc => simp [aF] at hc
  | scope => simp [aF] at hc
  | goto => simp [aF] at hc
  | refuse => simp [aF] at hc
theorem iK {id : Nat} {x : IC} (h : eU lo P x (zk id Q) st) : eU lo P (.block id x) Q st := fun code hc B Xs G w0 hG E a w hR => by
  cases code with
  | block id' cx =>
    simp only [aF] at hc
    obtain ⟨x', hx, he⟩ := Option.map_eq_some_iff.1 hc
    simp only [IC.block.injEq] at he
    obtain ⟨rfl, rfl⟩ := he
    refine wp_block (wp_mono (h cx hx B Xs G w0 hG E a w hR) ?_)
    rintro e a' w' ⟨st', E', h1, h2⟩
    cases e with
    | exit j =>
      simp only [Exit.inBlock, zk] at h2 ⊢
      split
      · next e => rw [if_pos e] at h2; exact ⟨st', E', h1, h2⟩
      · next e => rw [if_neg e] at h2; exact ⟨st', E', h1, h2⟩
    | _ => exact ⟨st', E', h1, h2⟩
  | cond c x y => simp only [aF] at hc; split at hc <;> simp at hc
  | seq x y => simp only [aF] at hc; split at hc <;> simp at hc
  | ret => simp [aF] at hc
  | exit id => simp [aF] at hc
  | skip => simp [aF] at hc
  | label l => simp [aF] at hc
  | region id ops b => exact (oC hc (by simp) (by simp)).elim
  | loop x => simp [aF] at hc
  | rangeFunc => simp [aF] at hc
  | scope => simp [aF] at hc
  | goto => simp [aF] at hc
  | refuse => simp [aF] at hc
theorem aG {ops : List IOp} (h : ∀ K : St → Prop, (∀ st', Q .normal st' → K st') → sw P K ops st) : eU lo P (.reg false ops) Q st := fun code hc B Xs G w0 hG E a w hR => by
  cases code with
  | region id cops b =>
    cases b with
    | true =>
      simp only [aF] at hc
      split at hc
      · split at hc
        · rcases qg hc with ⟨hc, _⟩ | ⟨Ts, hc, _⟩ <;> simp at hc
        · cases hc
      · cases hc
    | false =>
      simp only [aF] at hc
      obtain ⟨l, hl, he⟩ := Option.map_eq_some_iff.1 hc
      simp only [IC.reg.injEq] at he
      obtain ⟨_, rfl⟩ := he
      exact wp_region_list (yu (K := Q .normal) (fun st' E' a' w' h1 h2 => ⟨st', E', h1, h2⟩) _ _ st E a w hl hR (h _ fun _ h => h))
  | block id x => simp [aF] at hc
  | cond c x y => simp only [aF] at hc; split at hc <;> simp at hc
  | seq x y => simp only [aF] at hc; split at hc <;> simp at hc
  | ret => simp [aF] at hc
  | exit id => simp [aF] at hc
  | skip => simp [aF] at hc
  | label l => simp [aF] at hc
  | loop x => simp [aF] at hc
  | rangeFunc => simp [aF] at hc
  | scope => simp [aF] at hc
  | goto => simp [aF] at hc
  | refuse => simp [aF] at hc

theorem bK {ops : List IOp} (m : Bool) (hm : m = ops.any fun o => o.i.cls == 3) (h : ∀ K : St → Prop, (∀ st', Q .normal st' → K st') → sd P m K ops st) : eU lo P (.reg true ops) Q st := fun code hc B Xs G w0 hG E a w hR => by
  cases code with
  | region id cops b =>
    cases b with
    | false =>
      simp only [aF] at hc
      obtain ⟨l, hl, he⟩ := Option.map_eq_some_iff.1 hc
      simp at he
    | true =>
      simp only [aF] at hc
      split at hc
      · next l hl =>
        split at hc
        · next hd =>
          rcases qg hc with ⟨hc, hb⟩ | ⟨Ts, hc, _⟩
          · simp only [IC.reg.injEq] at hc
            obtain ⟨_, rfl⟩ := hc
            exact V3 (K := Q .normal) hd hl hb hm (fun st' E' a' w' h1 h2 => ⟨st', E', h1, h2⟩) (h _ fun _ h => h) hR
          · cases hc
        · cases hc
      · cases hc
  | block id x => simp [aF] at hc
  | cond c x y => simp only [aF] at hc; split at hc <;> simp at hc
  | seq x y => simp only [aF] at hc; split at hc <;> simp at hc
  | ret => simp [aF] at hc
  | exit id => simp [aF] at hc
  | skip => simp [aF] at hc
  | label l => simp [aF] at hc
  | loop x => simp [aF] at hc
  | rangeFunc => simp [aF] at hc
  | scope => simp [aF] at hc
  | goto => simp [aF] at hc
  | refuse => simp [aF] at hc

theorem EY {ops : List IOp} {Ts : List Nat} (m : Bool) (hm : m = ops.any fun o => o.i.cls == 3) (h : ∀ K : St → Prop, (∀ st', Q .normal st' → K st') → sd P m K ops st) : eU lo P (.regN true Ts ops) Q st := fun code hc B Xs G w0 hG E a w hR => by
  cases code with
  | region id cops b =>
    cases b with
    | false =>
      simp only [aF] at hc
      obtain ⟨l, hl, he⟩ := Option.map_eq_some_iff.1 hc
      simp at he
    | true =>
      simp only [aF] at hc
      split at hc
      · next l hl =>
        split at hc
        · next hd =>
          rcases qg hc with ⟨hc, hb⟩ | ⟨Ts, hc, _⟩
          · cases hc
          · simp only [IC.regN.injEq] at hc
            obtain ⟨hb, _, rfl⟩ := hc
            exact V3 (K := Q .normal) hd hl hb.symm hm (fun st' E' a' w' h1 h2 => ⟨st', E', h1, h2⟩) (h _ fun _ h => h) hR
        · cases hc
      · cases hc
  | block id x => simp [aF] at hc
  | cond c x y => simp only [aF] at hc; split at hc <;> simp at hc
  | seq x y => simp only [aF] at hc; split at hc <;> simp at hc
  | ret => simp [aF] at hc
  | exit id => simp [aF] at hc
  | skip => simp [aF] at hc
  | label l => simp [aF] at hc
  | loop x => simp [aF] at hc
  | rangeFunc => simp [aF] at hc
  | scope => simp [aF] at hc
  | goto => simp [aF] at hc
  | refuse => simp [aF] at hc

theorem bT {ops : List IOp} {Ts : List Nat} {b : Bool} (kc : Nat) (m : Bool) (hD : iC Ts st) (h : ∀ K : St → Prop, (∀ st', Q .normal st' → K st') → sn P kc m Ts K ops st) : eU lo P (.regN b Ts ops) Q st := fun code hc B Xs G w0 hG E a w hR => by
  cases code with
  | region id cops b =>
    cases b with
    | false =>
      simp only [aF] at hc
      obtain ⟨l, hl, he⟩ := Option.map_eq_some_iff.1 hc
      simp at he
    | true =>
      simp only [aF] at hc
      split at hc
      · next l hl =>
        split at hc
        · next hd =>
          rcases qg hc with ⟨hc, hb⟩ | ⟨Ts, hc, hb⟩
          · cases hc
          · simp only [IC.regN.injEq] at hc
            obtain ⟨_, rfl, rfl⟩ := hc
            exact Xm (K := Q .normal) (kc := kc) (m := m) hd hl hb hD (fun st' E' a' w' h1 h2 => ⟨st', E', h1, h2⟩) (h _ fun _ h => h) hR
        · cases hc
      · cases hc
  | block id x => simp [aF] at hc
  | cond c x y => simp only [aF] at hc; split at hc <;> simp at hc
  | seq x y => simp only [aF] at hc; split at hc <;> simp at hc
  | ret => simp [aF] at hc
  | exit id => simp [aF] at hc
  | skip => simp [aF] at hc
  | label l => simp [aF] at hc
  | loop x => simp [aF] at hc
  | rangeFunc => simp [aF] at hc
  | scope => simp [aF] at hc
  | goto => simp [aF] at hc
  | refuse => simp [aF] at hc

theorem fB {st : St} : iC [] st := fun x hx => by simp at hx
def AC.fits (n m : Nat) : AC → Bool
  | .own k _ => decide (k < n)
  | .osub k _ _ _ => decide (k < n)
  | .cl _ caps => caps.all fun k => decide (k < m)
  | _ => true
def AV.fits (n m : Nat) : AV → Bool
  | .c _ xs => xs.all (AC.fits n m)
  | .ptr xs => xs.all (AC.fits n m)
  | .bptr k _ => decide (k < m)
  | .eptr k _ _ _ => decide (k < n)
  | .tup ys => ys.all fun y => y.2.all (AC.fits n m)
  | .any => true
def je (n m : Nat) : List AV → List AV → Prop
  | [], [] => True
  | x :: xs, y :: ys => (y = .any ∨ (x = y ∧ y.fits n m = true)) ∧ je n m xs ys
  | _, _ => False
def Qm (st st' : St) : Prop := je st'.owns.length st'.boxes.length st.fr st'.fr ∧ (∃ r, st.owns = st'.owns ++ r) ∧ (∃ r, st.boxes = st'.boxes ++ r) ∧ ∀ xs ∈ st'.boxes, xs.all (AC.fits st'.owns.length st'.boxes.length) = true
def gX : List Own → List Own → Prop
  | _, [] => True
  | o :: os, o' :: os' => (o.l = o'.l ∧ o.e = o'.e ∧ o.s = o'.s ∧ o.ver = o'.ver ∧ o.nw = o'.nw) ∧ gX os os'
  | [], _ :: _ => False
def gZ : List (List AC) → List (List AC) → Prop
  | _, [] => True
  | x :: xs, y :: ys => x = y ∧ gZ xs ys
  | [], _ :: _ => False
def gu (st st' : St) : Prop := je st'.owns.length st'.boxes.length st.fr st'.fr ∧ gX st.owns st'.owns ∧ gZ st.boxes st'.boxes ∧ (st'.boxes.all fun xs => xs.all (AC.fits st'.owns.length st'.boxes.length)) = true
theorem vZ : ∀ {os os' : List Own}, gX os os' → ∃ r, os = os' ++ r
  | os, [], _ => ⟨os, rfl⟩
  | o :: os, o' :: os', h => by
    obtain ⟨r, hr⟩ := vZ h.2
    obtain ⟨⟨h1, h2, h3, h4, h5⟩, _⟩ := h
    refine ⟨r, ?_⟩
    rw [List.cons_append, ← hr]
    congr 1
    cases o; cases o'; simp_all
  | [], _ :: _, h => h.elim
theorem wJ : ∀ {xs ys : List (List AC)}, gZ xs ys → ∃ r, xs = ys ++ r
  | xs, [], _ => ⟨xs, rfl⟩
  | x :: xs, y :: ys, h => by
    obtain ⟨r, hr⟩ := wJ h.2
    exact ⟨r, by rw [List.cons_append, ← hr, h.1]⟩
  | [], _ :: _, h => h.elim
theorem wR {st st' : St} (h : gu st st') : Qm st st' := by
  obtain ⟨h1, h2, h3, h4⟩ := h
  exact ⟨h1, vZ h2, wJ h3, fun xs hx => List.all_eq_true.1 h4 xs hx⟩
section
variable {E : Env} {os os' : List Own} {w : World} {n m : Nat}
def Env.cut (E : Env) (n m : Nat) : Env := { E with om := E.om.take n, bm := E.bm.take m }
theorem Ov {b : Nat} (h : b ∈ (E.cut n m).M) : b ∈ E.M := by
  rcases iQ.1 h with ⟨k, p, h1, h2⟩ | ⟨k, p, h1, h2⟩
  · refine iQ.2 (Or.inl ⟨k, p, ?_, h2⟩)
    simp only [Env.cut] at h1
    rw [List.getElem?_take] at h1
    split at h1
    · exact h1
    · cases h1
  · refine iQ.2 (Or.inr ⟨k, p, ?_, h2⟩)
    simp only [Env.cut] at h1
    rw [List.getElem?_take] at h1
    split at h1
    · exact h1
    · cases h1
theorem AC.ok.cut {r : List Own} {x : AC} {v : Value} (h : x.ok E (os ++ r) w v) (hn : os.length = n) (hf : x.fits n m = true) : x.ok (E.cut n m) os w v := by
  cases x with
  | any => trivial
  | raw u => exact h
  | cl f caps =>
    obtain ⟨ps, h1, h2⟩ := h
    refine ⟨ps, ?_, h2⟩
    rw [← h1]
    refine List.map_congr_left fun k hk => ?_
    have : k < m := by simpa using List.all_eq_true.1 hf k hk
    simp only [Env.cut]
    rw [List.getElem?_take, if_pos this]
  | sl b l =>
    obtain ⟨fp, h1, h2⟩ := h
    exact ⟨fp, h1, fun b hb => ⟨fun hm => (h2 b hb).1 (Ov hm), (h2 b hb).2⟩⟩
  | own k i =>
    obtain ⟨hv, o, p, h1, h2, h3, h4⟩ := h
    have hk : k < n := by simpa [AC.fits] using hf
    refine ⟨hv, o, p, ?_, ?_, h3, h4⟩
    · rwa [List.getElem?_append_left (by omega)] at h1
    · simp only [Env.cut]
      rw [List.getElem?_take, if_pos hk]
      exact h2
  | osub k i pa pb =>
    obtain ⟨hv, o, p, h1, h2, h3, h4⟩ := h
    have hk : k < n := by simpa [AC.fits] using hf
    refine ⟨hv, o, p, ?_, ?_, h3, h4⟩
    · rwa [List.getElem?_append_left (by omega)] at h1
    · simp only [Env.cut]
      rw [List.getElem?_take, if_pos hk]
      exact h2
theorem Oks.cut {r : List Own} (hn : os.length = n) : ∀ {xs : List AC} {vs : List Value}, Oks E (os ++ r) w xs vs → xs.all (AC.fits n m) = true → Oks (E.cut n m) os w xs vs
  | [], [], _, _ => trivial
  | x :: xs, v :: vs, h, hf => by
    simp only [List.all_cons, Bool.and_eq_true] at hf
    exact ⟨h.1.cut hn hf.1, Oks.cut hn h.2 hf.2⟩
  | [], _ :: _, h, _ => h.elim
  | _ :: _, [], h, _ => h.elim
theorem Gok.cut {r : List Own} (hn : os.length = n) {g : Bool} {xs : List AC} {v : Value} (h : Gok E (os ++ r) w g xs v) (hf : xs.all (AC.fits n m) = true) : Gok (E.cut n m) os w g xs v := by
  cases g with
  | true => obtain ⟨vs, h1, h2⟩ := h; exact ⟨vs, h1, h2.cut hn hf⟩
  | false => exact Oks.cut hn (show Oks _ _ _ xs [v] from h) hf
theorem qU.cut {r : List Own} (hn : os.length = n) : ∀ {ys : List (Bool × List AC)} {vs : List Value}, qU E (os ++ r) w ys vs → (ys.all fun y => y.2.all (AC.fits n m)) = true → qU (E.cut n m) os w ys vs
  | [], [], _, _ => trivial
  | x :: xs, v :: vs, h, hf => by
    simp only [List.all_cons, Bool.and_eq_true] at hf
    exact ⟨h.1.cut hn hf.1, qU.cut hn h.2 hf.2⟩
  | [], _ :: _, h, _ => h.elim
  | _ :: _, [], h, _ => h.elim
theorem AV.ok.cut {r : List Own} (hn : os.length = n) {x : AV} {v : Value} (h : x.ok E (os ++ r) w v) (hf : x.fits n m = true) : x.ok (E.cut n m) os w v := by
  cases x with
  | any => trivial
  | c g xs => exact Gok.cut hn h hf
  | ptr xs =>
    obtain ⟨b, o, vs, h1, h2, h3, h4, h5⟩ := h
    exact ⟨b, o, vs, h1, h2, fun hm => h3 (Ov hm), h4, h5.cut hn hf⟩
  | bptr k off =>
    obtain ⟨p, h1, h2⟩ := h
    refine ⟨p, ?_, h2⟩
    simp only [Env.cut]
    rw [List.getElem?_take, if_pos (by simpa [AV.fits] using hf)]
    exact h1
  | eptr k i j off =>
    obtain ⟨o, p, h1, h2, h3, h4⟩ := h
    have hk : k < n := by simpa [AV.fits] using hf
    refine ⟨o, p, ?_, ?_, h3, h4⟩
    · rwa [List.getElem?_append_left (by omega)] at h1
    · simp only [Env.cut]
      rw [List.getElem?_take, if_pos hk]
      exact h2
  | tup ys =>
    obtain ⟨vs, h1, h2⟩ := h
    exact ⟨vs, h1, h2.cut hn hf⟩
end
theorem JM {n m : Nat} : ∀ {xs ys : List AV}, je n m xs ys → xs.length = ys.length ∧ ∀ (t : Nat) (y : AV), ys[t]? = some y → y = .any ∨ (xs[t]? = some y ∧ y.fits n m = true)
  | [], [], _ => ⟨rfl, fun t y h => by simp at h⟩
  | x :: xs, y :: ys, h => by
    obtain ⟨h1, h2⟩ := JM h.2
    refine ⟨by simp [h1], fun t z hz => ?_⟩
    cases t with
    | zero =>
      simp at hz
      subst hz
      rcases h.1 with h' | ⟨h', h''⟩
      · exact Or.inl h'
      · exact Or.inr ⟨by simp [h'], h''⟩
    | succ t => simpa using h2 t z (by simpa using hz)
  | [], _ :: _, h => h.elim
  | _ :: _, [], h => h.elim
theorem Rel.weak {B : Nat} {Xs : List Nat} {G : Org} {w0 : World} {st st' : St} {E : Env} {a : Act} {w : World} (h : Rel B Xs G w0 st E a w) (hle : Qm st st') (hG1 : G.os.length ≤ st'.owns.length) (hG2 : G.E.bm.length ≤ st'.boxes.length) : ∃ E', Rel B Xs G w0 st' E' a w := by
  obtain ⟨h1, ⟨r1, h2⟩, ⟨r2, h3⟩, h4⟩ := hle
  obtain ⟨hl, hf⟩ := JM h1
  obtain ⟨fr, os, bs⟩ := st
  obtain ⟨fr', os', bs'⟩ := st'
  simp only at h2 h3 h1 hl hf h4
  subst h2 h3
  have hol := h.olen
  have hbl := h.blen
  simp only [List.length_append] at hol hbl
  refine ⟨E.cut os'.length bs'.length, ?_⟩
  exact
    { eb := h.eb
      ex := h.ex
      sim := { base := h.sim.base, size := h.sim.size, blk := h.sim.blk, old := fun b hb hm => h.sim.old b hb (Ov hm),
               own := fun k o p g1 g2 => by
                 obtain ⟨o', p', q1, q2, q3⟩ := h.sim.own k o p g1 g2
                 have hk : k < os'.length := Nat.lt_of_lt_of_le (List.getElem?_eq_some_iff.1 g1).1 hG1
                 refine ⟨o', p', ?_, ?_, q3⟩
                 · simp only at q1 ⊢
                   rwa [List.getElem?_append_left hk] at q1
                 · simp only [Env.cut]
                   rw [List.getElem?_take, if_pos hk]; exact q2
               box := fun k p g => by
                 have hk : k < bs'.length := Nat.lt_of_lt_of_le (List.getElem?_eq_some_iff.1 g).1 hG2
                 simp only [Env.cut]
                 rw [List.getElem?_take, if_pos hk]; exact h.sim.box k p g }
      defers := h.defers
      size := by rw [h.size]; exact hl
      fr := fun t y hy => by
        rcases hf t y hy with rfl | ⟨h5, h6⟩
        · trivial
        · exact (h.fr t y h5).cut rfl h6
      olen := by simp only [Env.cut, List.length_take]; omega
      own := fun k o p g1 g2 => by
        have hk : k < os'.length := (List.getElem?_eq_some_iff.1 g1).1
        simp only [Env.cut] at g2
        rw [List.getElem?_take, if_pos hk] at g2
        obtain ⟨cs, h5, h6, h7, h8⟩ := h.own k o p (by simp only; rw [List.getElem?_append_left hk]; exact g1) g2
        exact ⟨cs, h5, h6, h7, fun b hb => ⟨fun hm => (h8 b hb).1 (Ov hm), (h8 b hb).2⟩⟩
      blen := by simp only [Env.cut, List.length_take]; omega
      box := fun k xs p g1 g2 => by
        have hk : k < bs'.length := (List.getElem?_eq_some_iff.1 g1).1
        simp only [Env.cut] at g2
        rw [List.getElem?_take, if_pos hk] at g2
        obtain ⟨h5, vs, h6, h7⟩ := h.box k xs p (by simp only; rw [List.getElem?_append_left hk]; exact g1) g2
        exact ⟨h5, vs, h6, h7.cut rfl (h4 xs (List.mem_of_getElem? g1))⟩
      nodup := by
        have := h.nodup
        unfold Env.M at this ⊢
        rw [List.nodup_append] at this ⊢
        refine ⟨this.1.sublist (by simp only [Env.cut]; exact (List.take_sublist _ _).map _), this.2.1.sublist (by
          simp only [Env.cut]
          have e := congrArg (List.flatMap (fun p : Value × List Nat => p.1.ownBlock.toList)) (List.take_append_drop os'.length E.om)
          rw [List.flatMap_append] at e
          rw [← e]
          exact List.sublist_append_left _ _), fun x hx y hy => ?_⟩
        refine this.2.2 x ?_ y ?_
        · exact ((List.take_sublist bs'.length E.bm).map _).subset hx
        · obtain ⟨p, hp, hpy⟩ := List.mem_flatMap.1 hy
          exact List.mem_flatMap.2 ⟨p, List.mem_of_mem_take hp, hpy⟩
      lin := by
        refine h.lin.map (fun k => k) (fun j k e _ _ => e) fun k o p g1 g2 g3 => Or.inr ⟨o, ?_, ?_, g3⟩
        · simp only; rw [List.getElem?_append_left (List.getElem?_eq_some_iff.1 g1).1]; exact g1
        · simp only [Env.cut] at g2
          rwa [List.getElem?_take, if_pos (List.getElem?_eq_some_iff.1 g1).1] at g2
      unf := by
        refine h.unf.map (fun k => k) fun k o p g1 g2 g3 => Or.inr ⟨o, ?_, ?_, g3⟩
        · simp only; rw [List.getElem?_append_left (List.getElem?_eq_some_iff.1 g1).1]; exact g1
        · simp only [Env.cut] at g2
          rwa [List.getElem?_take, if_pos (List.getElem?_eq_some_iff.1 g1).1] at g2
      below := h.below
      base := h.base }
theorem EX {c : IC} {st' : St} (hle : Qm st st') (h1 : lo.1 ≤ st'.owns.length) (h2 : lo.2 ≤ st'.boxes.length) (h : eU lo P c Q st') : eU lo P c Q st := fun code hc B Xs G w0 hG E a w hR => by
  obtain ⟨E', hR'⟩ := hR.weak hle (Nat.le_trans hG.1 h1) (Nat.le_trans hG.2 h2)
  exact h code hc B Xs G w0 hG E' a w hR'
theorem Ec {P : Program} {Q : Exit → Act → World → Prop} {a : Act} {w : World} {c : Code} (I : Nat → Act → World → Prop) (n : Nat) (h₀ : I n a w)
    (round : ∀ n a w, I n a w → c.wp P (Exit.then (fun a' w' => ∃ m, m < n ∧ I m a' w') Q) a w) : (Code.loop c).wp P Q a w := by
  intro b k cs
  have key : ∀ n a w, I n a w → ∃ e a' w', Q e a' w' ∧ Arrives P (lone (b.at a (.code c :: .inLoop c :: k)) cs w) b k cs e a' w' := by
    intro n
    induction n using Nat.strongRecOn with
    | _ n ih =>
      intro a w hI
      obtain ⟨e, a₁, w₁, hq, harr⟩ := round n a w hI b (.inLoop c :: k) cs
      cases e with
      | normal =>
        obtain ⟨m, hlt, hI₁⟩ := hq
        obtain ⟨e₂, a₂, w₂, hq₂, harr₂⟩ := ih m hlt a₁ w₁ hI₁
        exact ⟨e₂, a₂, w₂, hq₂, .of_steps (Steps.trans harr (.one step_inLoop)) harr₂⟩
      | exit id => exact ⟨_, a₁, w₁, hq, .pass (x := .inLoop c) rfl (fun _ _ => .inl (by simp)) harr⟩
      | goto l => exact ⟨_, a₁, w₁, hq, .pass (x := .inLoop c) rfl (fun _ _ => .inl (by simp)) harr⟩
      | ret => exact ⟨_, a₁, w₁, hq, .pass (x := .inLoop c) rfl (fun _ _ => .inl (by simp)) harr⟩
      | panic ch => exact ⟨_, a₁, w₁, hq, .pass (x := .inLoop c) rfl (fun _ _ => .inl (by simp)) harr⟩
      | outgrown => exact ⟨_, a₁, w₁, hq, .pass (x := .inLoop c) rfl (fun _ _ => .inl (by simp)) harr⟩
  obtain ⟨e, a', w', hq, harr⟩ := key n a w h₀
  exact ⟨e, a', w', hq, .of_steps (.one step_loop) harr⟩
def wO {X : Type} (F : X → St) (inv : X → Prop) (μ : X → Nat) (x : X) (Q : Exit → St → Prop) : Exit → St → Prop
  | .normal, st => ∃ x', Qm st (F x') ∧ inv x' ∧ μ x' < μ x
  | e, st => Q e st
theorem EZ {X : Type} {c : IC} (F : X → St) (inv : X → Prop) (μ : X → Nat) (x0 : X) (h0 : inv x0) (hlo : ∀ x, lo.1 ≤ (F x).owns.length ∧ lo.2 ≤ (F x).boxes.length) (hle : Qm st (F x0)) (round : ∀ x, inv x → eU lo P c (wO F inv μ x Q) (F x)) : eU lo P (.loop c) Q st := fun code hc B Xs G w0 hG E a w hR => by
  cases code with
  | loop cc =>
    simp only [aF] at hc
    obtain ⟨c', hcc, he⟩ := Option.map_eq_some_iff.1 hc
    simp only [IC.loop.injEq] at he
    subst he
    obtain ⟨E', hR'⟩ := hR.weak hle (Nat.le_trans hG.1 (hlo _).1) (Nat.le_trans hG.2 (hlo _).2)
    refine Ec (fun n a w => ∃ x E, μ x = n ∧ inv x ∧ Rel B Xs G w0 (F x) E a w) (μ x0) ⟨x0, E', rfl, h0, hR'⟩ ?_
    rintro n a w ⟨x, E, rfl, hx, hR⟩
    refine wp_mono (round x hx cc hcc B Xs G w0 hG E a w hR) ?_
    rintro e a' w' ⟨st', E', h1, h2⟩
    cases e with
    | normal =>
      obtain ⟨x', h3, h4, h5⟩ := h2
      obtain ⟨E'', h6⟩ := h1.weak h3 (Nat.le_trans hG.1 (hlo _).1) (Nat.le_trans hG.2 (hlo _).2)
      exact ⟨μ x', h5, x', E'', rfl, h4, h6⟩
    | _ => exact ⟨st', E', h1, h2⟩
  | region id cops b => exact (oC hc (by simp) (by simp)).elim
  | block id x => simp [aF] at hc
  | cond c x y => simp only [aF] at hc; split at hc <;> simp at hc
  | seq x y => simp only [aF] at hc; split at hc <;> simp at hc
  | ret => simp [aF] at hc
  | exit id => simp [aF] at hc
  | skip => simp [aF] at hc
  | label l => simp [aF] at hc
  | rangeFunc => simp [aF] at hc
  | scope => simp [aF] at hc
  | goto => simp [aF] at hc
  | refuse => simp [aF] at hc
theorem Uu {X : Type} {c : IC} (F : X → St) (inv : X → Prop) (μ : X → Nat) (x0 : X) (h0 : inv x0) (hle : Qm st (F x0)) (round : ∀ x, inv x → AWP P c (wO F inv μ x Q) (F x)) : AWP P (.loop c) Q st :=
  EZ F inv μ x0 h0 (fun _ => ⟨Nat.zero_le _, Nat.zero_le _⟩) hle round
end

def stN (b : Bool) (n : Nat) (ds : List D) : St := ⟨ds.map (D.avN b) ++ List.replicate (n - ds.length) (.c false [.raw undef]), [], []⟩
def st0 (n : Nat) (ds : List D) : St := ⟨ds.map D.av ++ List.replicate (n - ds.length) (.c false [.raw undef]), [], []⟩
theorem XI {w : World} {F : List Nat} {d : D} {v : Value} {H : Nat} {b : Bool} (h : RdF w F d v) : (D.avN b d).ok ⟨H, [], [], if b then F else []⟩ [] w v := by
  unfold RdF at h
  show Gok _ _ _ d.isAgg (d.acs b) v
  unfold Gok
  have hn : ∀ x ∈ F, b = true → (⟨H, [], [], if b then F else []⟩ : Env).nw x := fun x hx e => by subst e; exact Or.inr hx
  cases hg : d.isAgg with
  | true =>
    rw [hg, if_pos rfl] at h
    obtain ⟨fp, cs, h1, h2, h3⟩ := h
    rw [if_pos rfl]
    exact ⟨cs, h1, qH h2 (fun x hx => ⟨by simp [Env.M], hn x (h3 x hx)⟩)⟩
  | false =>
    rw [hg, if_neg (by simp)] at h
    obtain ⟨fp, h2, h3⟩ := h
    rw [if_neg (by simp)]
    exact qH h2 (fun x hx => ⟨by simp [Env.M], hn x (h3 x hx)⟩)
theorem Bg {w : World} {F : List Nat} : ∀ {ds : List D} {vs : List Value}, y9 w F ds vs → ds.length = vs.length ∧ ∀ (t : Nat) (d : D), ds[t]? = some d → ∃ v, vs[t]? = some v ∧ RdF w F d v
  | [], [], _ => ⟨rfl, fun t d h => by simp at h⟩
  | d :: ds, v :: vs, h => by
    obtain ⟨h1, h2⟩ := Bg h.2
    refine ⟨by simp [h1], fun t x hx => ?_⟩
    cases t with
    | zero => simp at hx; subst hx; exact ⟨v, rfl, h.1⟩
    | succ t => simpa using h2 t x (by simpa using hx)
  | [], _ :: _, h => h.elim
  | _ :: _, [], h => h.elim
theorem WJ {w : World} {d : D} {v : Value} (h : Rd w d v) : ∃ F, RdF w F d v := by
  unfold Rd at h
  unfold RdF
  split at h
  · obtain ⟨fp, cs, h1, h2⟩ := h
    exact ⟨fp, by rw [if_pos (by assumption)]; exact ⟨fp, cs, h1, h2, fun b hb => hb⟩⟩
  · obtain ⟨fp, h2⟩ := h
    exact ⟨fp, by rw [if_neg (by assumption)]; exact ⟨fp, h2, fun b hb => hb⟩⟩
theorem Ie {w : World} : ∀ {ds : List D} {vs : List Value}, Rds w ds vs → ∃ F, y9 w F ds vs
  | [], [], _ => ⟨[], trivial⟩
  | d :: ds, v :: vs, h => by
    obtain ⟨F1, h1⟩ := WJ h.1
    obtain ⟨F2, h2⟩ := Ie h.2
    exact ⟨F1 ++ F2, h1.mono (fun b hb => List.mem_append_left _ hb), h2.mono (fun b hb => List.mem_append_right _ hb)⟩
  | [], _ :: _, h => h.elim
  | _ :: _, [], h => h.elim
theorem O6 {w : World} {F : List Nat} {ds : List D} {vs : List Value} (b : Bool) (h : y9 w F ds vs) (ht : vG w) (n : Nat) : Rel w.heap.size (if b then F else []) ⟨⟨w.heap.size, [], [], if b then F else []⟩, [], w⟩ w (stN b n ds) ⟨w.heap.size, [], [], if b then F else []⟩ { tmps := vs.toArray ++ Array.replicate (n - vs.toArray.size) undef, defers := [] } w where
  eb := Nat.le_refl _
  ex := rfl
  sim := Sim.refl _ _ _
  defers := rfl
  size := by
    obtain ⟨hl, _⟩ := Bg h
    simp [stN, hl]
  fr := by
    obtain ⟨hl, hg⟩ := Bg h
    intro t x hx
    simp only [stN] at hx
    rw [List.getElem?_append] at hx
    simp only [Array.getD_eq_getD_getElem?]
    split at hx
    · next ht =>
      rw [List.getElem?_map] at hx
      obtain ⟨d, hd, rfl⟩ := Option.map_eq_some_iff.1 hx
      obtain ⟨v, hv, hr⟩ := hg t d hd
      rw [Array.getElem?_append_left (by simp at ht ⊢; omega)]
      simp only [List.getElem?_toArray, hv, Option.getD_some]
      exact XI hr
    · next ht =>
      rw [List.getElem?_replicate] at hx
      split at hx
      · next hlt =>
        injection hx with hx
        subst hx
        simp only [List.length_map] at ht hlt
        rw [Array.getElem?_append_right (by simp; omega), Array.getElem?_replicate]
        simp only [List.size_toArray, ← hl]
        rw [if_pos hlt]
        exact ⟨rfl, trivial⟩
      · cases hx
  olen := rfl
  own := fun k o p h1 h2 => by simp [stN] at h1
  blen := rfl
  box := fun k xs p h1 h2 => by simp [stN] at h1
  nodup := by simp [Env.M]
  lin := Lin.nil
  unf := Unf.nil
  below := BelowT.start ht
  base := Nat.le_refl _
def kH (Fin : St → Prop) : Exit → St → Prop
  | .normal, st => Fin st
  | .ret, st => Fin st
  | _, _ => False
theorem wG {P : Program} {f : Nat} {fn : Func} {code : Code} {ic : IC} {ds : List D} {Fin : St → Prop} {post : List Nat → World → Ending → World → Prop} (b : Bool) (hf : P.funcs[f]? = some fn) (hb : fn.body = some code) (hc : aF P code = some ic)
    (h : AWP P ic (kH Fin) (stN b fn.ntmps ds))
    (hfin : ∀ (F : List Nat) (G : Org) (w w' : World) (st : St) (E : Env) (a : Act), Rel w.heap.size (if b then F else []) G w st E a w' → Fin st → ∃ v, (results fn a.tmps).run P w' = .ok v w' ∧ post F w (.returned v) w') :
    ∀ (w : World) (F : List Nat) (vs : List Value), y9 w F ds vs → vG w → Calls P f vs.toArray w (post F w) := by
  intro w F vs hr ht
  refine calls_of_wp hf hb ?_
  have := h code hc w.heap.size _ _ w ⟨Nat.le_refl _, Nat.le_refl _⟩ _ _ w (O6 b hr ht fn.ntmps)
  refine wp_mono this ?_
  rintro e a' w' ⟨st', E', h1, h2⟩
  cases e with
  | normal =>
    obtain ⟨v, h3, h4⟩ := hfin F _ w w' st' E' a' h1 h2
    exact ⟨h1.defers, v, h3, h4⟩
  | ret =>
    obtain ⟨v, h3, h4⟩ := hfin F _ w w' st' E' a' h1 h2
    exact ⟨h1.defers, v, h3, h4⟩
  | _ => exact h2.elim
theorem nM {P : Program} {f : Nat} {fn : Func} {code : Code} {ic : IC} {ds : List D} {Fin : St → Prop} {post : World → Ending → World → Prop} (hf : P.funcs[f]? = some fn) (hb : fn.body = some code) (hc : aF P code = some ic)
    (h : AWP P ic (kH Fin) (st0 fn.ntmps ds))
    (hfin : ∀ (G : Org) (w w' : World) (st : St) (E : Env) (a : Act), Rel w.heap.size [] G w st E a w' → Fin st → ∃ v, (results fn a.tmps).run P w' = .ok v w' ∧ post w (.returned v) w') :
    ∀ (w : World) (vs : List Value), Rds w ds vs → vG w → Calls P f vs.toArray w (post w) := by
  intro w vs hr ht
  obtain ⟨F, hF⟩ := Ie hr
  exact wG (post := fun _ => post) false hf hb hc h (fun F G w w' st E a hR => hfin G w w' st E a hR) w F vs hF ht
def eY (l : List D) : Prop := ∀ (w : World) (f : List Nat) (cs : List Value), Rs w l f cs → f = []
def dA (os : List Own) : AC → AC → Prop
  | _, .any => True
  | .raw v, .raw u => v = u
  | .sl n l, .sl _ l' => n = true ∧ l = l'
  | .own k i, .sl _ l => ∃ o, os[k]? = some o ∧ o.ver = i ∧ o.l = l ∧ (o.nw.n = true ∨ eY l)
  | .raw v, .sl _ l => v = .slice none 0 0 ∧ l = []
  | _, _ => False
def dD (os : List Own) : List AC → List AC → Prop
  | [], [] => True
  | x :: xs, y :: ys => dA os x y ∧ dD os xs ys
  | _, _ => False
section
variable {B : Nat} {Xs : List Nat} {G : Org} {w0 : World} {st : St} {E E' : Env} {a : Act} {w : World}
def zf (B : Nat) (Xs : List Nat) (E' : Env) : Prop := ∀ b, (B ≤ b ∨ b ∈ Xs) → b ∉ E'.M ∧ E'.nw b
theorem Aq (B : Nat) : zf B [] (oI B) := fun b hb => by
  have : B ≤ b := by simpa using hb
  exact ⟨rE.2 this, Or.inl this⟩
theorem F5 (B : Nat) (F : List Nat) : zf B F (kU B F) := fun b hb => ⟨wX.2 hb, hb⟩
theorem wC (h : Rel B Xs G w0 st E a w) {b : Nat} (hb : E.nw b) : B ≤ b ∨ b ∈ Xs := by
  unfold Env.nw at hb
  rw [h.ex] at hb
  exact hb.imp_left (Nat.le_trans h.eb)
theorem Qk (h : Rel B Xs G w0 st E a w) (hE : zf B Xs E') {x y : AC} {v : Value} (hf : dA st.owns x y) (hx : x.ok E st.owns w v) : y.ok E' [] w v := by
  cases y with
  | any => trivial
  | raw u => cases x with
    | raw v' => obtain rfl := hf; exact hx
    | _ => exact hf.elim
  | sl n l => cases x with
    | sl n' l' =>
      obtain ⟨rfl, rfl⟩ := hf
      obtain ⟨fp, h1, h2⟩ := hx
      refine ⟨fp, h1, fun b hb => ?_⟩
      have hB := hE b (wC h ((h2 b hb).2 rfl))
      exact ⟨hB.1, fun _ => hB.2⟩
    | own k i =>
      obtain ⟨o, h1, h2, rfl, h3⟩ := hf
      obtain ⟨_, o', p, g1, g2, g3, g4⟩ := hx
      rw [h1] at g1
      injection g1 with g1
      subst g1
      obtain rfl := g4 h2
      obtain ⟨cs, h5, h6, h7, h8⟩ := h.own k o p h1 g2
      refine ⟨_, Sl.mP h5 h6, fun b hb => ?_⟩
      have hB : E.nw b := by
        rcases List.mem_append.1 hb with hb | hb
        · exact h.tN (bW.lt h5 b (by simpa using hb)).1
        · rcases h3 with h3 | h3
          · exact (h8 b hb).2 h3
          · rw [h3 _ _ _ h6] at hb; simp at hb
      have hB := hE b (wC h hB)
      exact ⟨hB.1, fun _ => hB.2⟩
    | raw v' =>
      obtain ⟨rfl, rfl⟩ := hf
      obtain rfl := hx
      refine ⟨[], ?_, fun b hb => by simp at hb⟩
      unfold Sl
      rw [R]
      exact ⟨none, 0, rfl, Nat.le_refl _, Nat.zero_le _, Or.inl ⟨rfl, rfl⟩⟩
    | any => exact hf.elim
    | osub _ _ _ _ => exact hf.elim
    | cl _ _ => exact hf.elim
  | own k i => cases x <;> exact hf.elim
  | osub k i pa pb => cases x <;> exact hf.elim
  | cl f caps => cases x <;> exact hf.elim
theorem sQ (h : Rel B Xs G w0 st E a w) (hE : zf B Xs E') : ∀ {xs ys : List AC} {vs : List Value}, dD st.owns xs ys → Oks E st.owns w xs vs → Oks E' [] w ys vs
  | [], [], [], _, _ => trivial
  | x :: xs, y :: ys, v :: vs, hf, hx => ⟨Qk h hE hf.1 hx.1, sQ h hE hf.2 hx.2⟩
  | [], [], _ :: _, _, hx => hx.elim
  | _ :: _, _ :: _, [], _, hx => hx.elim
  | [], _ :: _, _, hf, _ => hf.elim
  | _ :: _, [], _, hf, _ => hf.elim
theorem JK (h : Rel B Xs G w0 st E a w) (hE : zf B Xs E') {g : Bool} {xs ys : List AC} {v : Value} (hf : dD st.owns xs ys) (hx : Gok E st.owns w g xs v) : Gok E' [] w g ys v := by
  cases g with
  | true => obtain ⟨vs, h1, h2⟩ := hx; exact ⟨vs, h1, sQ h hE hf h2⟩
  | false => exact sQ h hE hf (show Oks _ _ _ xs [v] from hx)
end
theorem zT {os : List Own} : ∀ {xs ys : List AC}, dD os xs ys → xs.length = ys.length
  | [], [], _ => rfl
  | _ :: xs, _ :: ys, h => by rw [List.length_cons, List.length_cons, zT h.2]
  | [], _ :: _, h => h.elim
  | _ :: _, [], h => h.elim
def XL (t : Nat) (g : Bool) (ys : List AC) (st : St) : Prop := ∃ xs, st.fr.getD t .any = .c g xs ∧ dD st.owns xs ys
def XM (t : Nat) (ys : List AC) (st : St) : Prop := ∃ k xs, st.fr.getD t .any = .bptr k 0 ∧ st.boxes[k]? = some xs ∧ dD st.owns xs ys
def sW (r : ResultVar) (g : Bool) (ys : List AC) (st : St) : Prop := match r with
  | .tmp t => XL t g ys st
  | .cell t _ => XM t ys st
def pR (P : Program) (ty : TypeId) (n : Nat) : Bool := match P.info? ty, P.underlying ty with
  | some i, some d => i.size == n && lQ d
  | _, _ => false
def dY (P : Program) (r : ResultVar) (g : Bool) (n : Nat) : Bool := match r with
  | .tmp _ => true
  | .cell _ ty => g && pR P ty n
def iP (r : ResultVar) (tmps : Array Value) : Sem Value := match r with
  | .tmp t => pure (tmps.getD t undef)
  | .cell a t => do loadVar t (← asAddr (tmps.getD a undef))
section
variable {P : Program} {f : Nat} {fn : Func} {code : Code} {ic : IC} {ds : List D}
theorem qA {B : Nat} {Xs : List Nat} {G : Org} {w0 : World} {st : St} {E : Env} {a : Act} {w : World} (h : Rel B Xs G w0 st E a w) {t : Nat} {x : AV} (hx : st.fr.getD t .any = x) : x.ok E st.owns w (a.tmps.getD t undef) := by
  have := eu h (.tmp t)
  simp only [opd, St.ev, Act.eval] at this
  rwa [hx] at this
theorem vk {B : Nat} {Xs : List Nat} {G : Org} {w0 : World} {st : St} {E E' : Env} {a : Act} {w : World} (h : Rel B Xs G w0 st E a w) (hE : zf B Xs E') {r : ResultVar} {g : Bool} {ys : List AC} (hp : dY P r g ys.length = true) (hf : sW r g ys st) :
    ∃ v, (iP r a.tmps).run P w = .ok v w ∧ Gok E' [] w g ys v := by
  cases r with
  | tmp t =>
    obtain ⟨xs, h1, h2⟩ := hf
    exact ⟨_, rfl, JK h hE h2 (qA h h1)⟩
  | cell t ty =>
    obtain ⟨k, xs, h1, h2, h3⟩ := hf
    simp only [dY, Bool.and_eq_true, pR] at hp
    obtain ⟨rfl, hp⟩ := hp
    split at hp
    · next i d hi hd =>
      simp only [Bool.and_eq_true, beq_iff_eq] at hp
      obtain ⟨p, g1, g2⟩ := qA h h1
      obtain ⟨_, vs, h4, h5⟩ := h.box k xs p h2 g1
      have hlen : vs.length = i.size := by rw [← h5.len, zT h3, hp.1]
      refine ⟨.agg vs.toArray, ?_, vs, rfl, sQ h hE h3 h5⟩
      simp only [iP]
      rw [g2]
      have := run_loadVar_row (P := P) w p.1 p.2 ty vs.toArray (0, 0) d h4 hd (by have := hp.2; cases d <;> simp_all [lQ]) (by rw [hi]; simp [hlen])
      simp [asAddr, this]
    · cases hp
theorem lY {r : ResultVar} (hr : fn.results = #[r]) (tmps : Array Value) {w : World} {v : Value} (h : (iP r tmps).run P w = .ok v w) : (results fn tmps).run P w = .ok v w := by
  cases r with
  | tmp t => simp [iP] at h; simp [results, hr, h]
  | cell t ty => simp [iP] at h; simp [results, hr, h]
theorem qC {r q : ResultVar} (hr : fn.results = #[r, q]) (tmps : Array Value) {w : World} {v u : Value} (h : (iP r tmps).run P w = .ok v w) (h2 : (iP q tmps).run P w = .ok u w) : (results fn tmps).run P w = .ok (.tuple #[v, u]) w := by
  have e : (results fn tmps).run P w = (iP r tmps >>= fun v => iP q tmps >>= fun u => pure (.tuple #[v, u]) : Sem Value).run P w := by
    have a1 : ∀ (x : Result Addr) (f : Addr → World → Result Value) (g : Value → World → Result Value), (x.andThen f).andThen g = x.andThen fun a w => (f a w).andThen g := by
      intro x f g; cases x <;> rfl
    cases r <;> cases q <;> simp [results, hr, iP, a1]
  rw [e]
  simp [h, h2]
theorem fZ {t : Nat} {g : Bool} {ys : List AC} (hf : P.funcs[f]? = some fn) (hb : fn.body = some code) (hr : fn.results = #[.tmp t]) (hc : aF P code = some ic)
    (h : AWP P ic (kH (XL t g ys)) (st0 fn.ntmps ds)) : aK P f ds (.c g ys) := by
  refine nM (post := fun w e w' => yh (.c g ys) w e w') hf hb hc h ?_
  rintro G w w' st E a hR ⟨xs, h1, h2⟩
  refine ⟨_, results_tmp hr a.tmps P w', _, rfl, JK hR (Aq _) h2 (qA hR h1), hR.below.out⟩
theorem CZ {t : Nat} {ty : TypeId} {ys : List AC} (hf : P.funcs[f]? = some fn) (hb : fn.body = some code) (hr : fn.results = #[.cell t ty]) (hp : pR P ty ys.length = true) (hc : aF P code = some ic)
    (h : AWP P ic (kH (XM t ys)) (st0 fn.ntmps ds)) : aK P f ds (.c true ys) := by
  refine nM (post := fun w e w' => yh (.c true ys) w e w') hf hb hc h ?_
  rintro G w w' st E a hR hF
  obtain ⟨v, h1, h2⟩ := vk (P := P) (r := .cell t ty) (g := true) hR (Aq _) (by simp [dY, hp]) hF
  exact ⟨v, lY hr _ h1, v, rfl, h2, hR.below.out⟩
theorem yY {r q : ResultVar} {g g' : Bool} {ys zs : List AC} (hf : P.funcs[f]? = some fn) (hb : fn.body = some code) (hr : fn.results = #[r, q]) (hp : (dY P r g ys.length && dY P q g' zs.length) = true) (hc : aF P code = some ic)
    (h : AWP P ic (kH (fun st => sW r g ys st ∧ sW q g' zs st)) (st0 fn.ntmps ds)) : aK P f ds (.tup [(g, ys), (g', zs)]) := by
  refine nM (post := fun w e w' => yh (.tup [(g, ys), (g', zs)]) w e w') hf hb hc h ?_
  rintro G w w' st E a hR ⟨h1, h2⟩
  simp only [Bool.and_eq_true] at hp
  obtain ⟨v, h3, h4⟩ := vk hR (Aq _) hp.1 h1
  obtain ⟨u, h5, h6⟩ := vk hR (Aq _) hp.2 h2
  exact ⟨_, qC hr _ h3 h5, _, rfl, ⟨[v, u], rfl, h4, h6, trivial⟩, hR.below.out⟩
theorem LY {r q : ResultVar} {g g' : Bool} {ys zs : List AC} (hf : P.funcs[f]? = some fn) (hb : fn.body = some code) (hr : fn.results = #[r, q]) (hp : (dY P r g ys.length && dY P q g' zs.length) = true) (hc : aF P code = some ic)
    (h : AWP P ic (kH (fun st => sW r g ys st ∧ sW q g' zs st)) (stN true fn.ntmps ds)) : gY P f ds (.tup [(g, ys), (g', zs)]) := by
  intro w F vs hF hr'
  refine wG (post := fun F w e w' => zh (.tup [(g, ys), (g', zs)]) F w e w') true hf hb hc h ?_ w F vs hr'
  rintro F G w w' st E a hR ⟨h1, h2⟩
  simp only [Bool.and_eq_true] at hp
  obtain ⟨v, h3, h4⟩ := vk hR (F5 _ F) hp.1 h1
  obtain ⟨u, h5, h6⟩ := vk hR (F5 _ F) hp.2 h2
  exact ⟨_, qC hr _ h3 h5, _, rfl, ⟨[v, u], rfl, h4, h6, trivial⟩, hR.below.out⟩
theorem C9 {r : ResultVar} {g : Bool} {ys : List AC} (hf : P.funcs[f]? = some fn) (hb : fn.body = some code) (hr : fn.results = #[r]) (hp : dY P r g ys.length = true) (hc : aF P code = some ic)
    (h : AWP P ic (kH (sW r g ys)) (stN true fn.ntmps ds)) : gY P f ds (.c g ys) := by
  intro w F vs hF hr'
  refine wG (post := fun F w e w' => zh (.c g ys) F w e w') true hf hb hc h ?_ w F vs hr'
  rintro F G w w' st E a hR h1
  obtain ⟨v, h3, h4⟩ := vk hR (F5 _ F) hp h1
  exact ⟨_, lY hr _ h3, _, rfl, h4, hR.below.out⟩
def WB (k i : Nat) (l : List D) (e s : Nat) (st : St) : Prop := ∃ o, st.owns[k]? = some o ∧ o.ver = i ∧ o.l = l ∧ o.e = e ∧ o.s = s ∧ (o.nw.n = true ∨ eY l)
def XQ (t : Nat) (l : List D) (e s : Nat) (st : St) : Prop := ∃ b k i, st.fr.getD t .any = .bptr b 0 ∧ st.boxes[b]? = some [.own k i] ∧ WB k i l e s st
theorem RQ {G : Org} {w w' : World} {st : St} {E : Env} {a : Act} (hR : Rel w.heap.size [] G w st E a w') {k i : Nat} {l : List D} {e s : Nat} {v : Value} (hv : (AC.own k i).ok E st.owns w' v) (h : WB k i l e s st) :
    ∃ cs f, bW w' w.heap.size e s v l.length cs ∧ Rs w' l f cs ∧ ∀ b ∈ f, some b ≠ v.ownBlock ∧ w.heap.size ≤ b := by
  obtain ⟨o, h2, h3, rfl, rfl, rfl, h4⟩ := h
  obtain ⟨_, o', p, g1, g2, g3, g4⟩ := hv
  rw [h2] at g1
  injection g1 with g1
  subst g1
  obtain ⟨cs, h5, h6, h7, h8⟩ := hR.own k o p h2 g2
  rw [g4 h3]
  refine ⟨cs, p.2, qF h5 hR.eb, h6, fun b hb => ⟨fun e => ?_, ?_⟩⟩
  · exact (h8 b hb).1 (iQ.2 (Or.inr ⟨k, p, g2, e.symm⟩))
  · rcases h4 with h4 | h4
    · simpa using wC hR ((h8 b hb).2 h4)
    · rw [h4 _ _ _ h6] at hb; simp at hb
def OO (os : List Own) (pk : List Nat) : AC → AC → Prop
  | _, .any => True
  | .raw v, .raw u => v = u
  | .sl n l, .sl m l' => n = true ∧ m = true ∧ l = l'
  | .own k i, .sl m l => m = true ∧ k ∉ pk ∧ ∃ o, os[k]? = some o ∧ o.ver = i ∧ o.l = l ∧ (o.nw.n = true ∨ eY l)
  | .own k i, .own j z => pk[j]? = some k ∧ z = 0 ∧ ∃ o, os[k]? = some o ∧ o.ver = i
  | _, _ => False
def uO (os : List Own) (pk : List Nat) : List AC → List AC → Prop
  | [], [] => True
  | x :: xs, y :: ys => OO os pk x y ∧ uO os pk xs ys
  | _, _ => False
def zU (o o' : Own) : Prop := match o'.nw.lin with
  | false => o.nw.n = true ∨ eY o.l
  | true => (o.nw.n = true ∧ o.nw.lin = true) ∨ eY o.l
def nS (os : List Own) : List Nat → List Own → Prop
  | [], [] => True
  | k :: pk, o' :: os' => (∃ o, os[k]? = some o ∧ o' = ⟨o.l, o.e, o.s, 0, ⟨true, o'.nw.lin⟩⟩ ∧ zU o o') ∧ nS os pk os'
  | _, _ => False
def UH (pk : List Nat) (r : ResultVar) (g : Bool) (ys : List AC) (st : St) : Prop := match r with
  | .tmp t => ∃ xs, st.fr.getD t .any = .c g xs ∧ uO st.owns pk xs ys
  | .cell t _ => ∃ k xs, st.fr.getD t .any = .bptr k 0 ∧ st.boxes[k]? = some xs ∧ uO st.owns pk xs ys
theorem xU {os : List Own} {pk : List Nat} : ∀ {xs ys : List AC}, uO os pk xs ys → xs.length = ys.length
  | [], [], _ => rfl
  | _ :: xs, _ :: ys, h => by rw [List.length_cons, List.length_cons, xU h.2]
  | [], _ :: _, h => h.elim
  | _ :: _, [], h => h.elim
theorem zU.weak {o o' : Own} (h : zU o o') : o.nw.n = true ∨ eY o.l := by
  unfold zU at h
  split at h
  · exact h
  · exact h.imp And.left id
theorem zU.lin {o o' : Own} (h : zU o o') (e : o'.nw.lin = true) : o.nw.lin = true ∨ eY o.l := by
  unfold zU at h
  rw [e] at h
  exact h.imp And.right id
theorem nZ {os : List Own} : ∀ {pk : List Nat} {os' : List Own}, nS os pk os' → pk.length = os'.length ∧ ∀ (j k : Nat) (o' : Own), pk[j]? = some k → os'[j]? = some o' → ∃ o, os[k]? = some o ∧ o' = ⟨o.l, o.e, o.s, 0, ⟨true, o'.nw.lin⟩⟩ ∧ zU o o'
  | [], [], _ => ⟨rfl, fun j k o' h => by simp at h⟩
  | k :: pk, o' :: os', h => by
    obtain ⟨h1, h2⟩ := nZ h.2
    refine ⟨by simp [h1], fun j k' o'' g1 g2 => ?_⟩
    cases j with
    | zero => simp at g1 g2; subst g1 g2; exact h.1
    | succ j => exact h2 j k' o'' (by simpa using g1) (by simpa using g2)
  | [], _ :: _, h => h.elim
  | _ :: _, [], h => h.elim
section
variable {B : Nat} {G : Org} {w0 : World} {st : St} {E : Env} {a : Act} {w : World} {pk : List Nat} {os' : List Own}
def mG (E : Env) (pk : List Nat) : List (Value × List Nat) := pk.map fun k => E.om.getD k (undef, [])
theorem tK {j k : Nat} (h : pk[j]? = some k) : (mG E pk)[j]? = some (E.om.getD k (undef, [])) := by simp [mG, h]
theorem Bj (h : Rel B [] G w0 st E a w) (ho : nS st.owns pk os') {b : Nat} (hb : b ∈ (mG E pk).flatMap fun q => q.1.ownBlock.toList) : ∃ k ∈ pk, ∃ p, E.om[k]? = some p ∧ p.1.ownBlock = some b := by
  obtain ⟨q, hq, hqb⟩ := List.mem_flatMap.1 hb
  obtain ⟨k, hk, rfl⟩ := List.mem_map.1 hq
  obtain ⟨j, hj⟩ := List.mem_iff_getElem?.1 hk
  obtain ⟨h1, h2⟩ := nZ ho
  have hj' : j < os'.length := by rw [← h1]; exact (List.getElem?_eq_some_iff.1 hj).1
  obtain ⟨o, g1, _⟩ := h2 j k _ hj (List.getElem?_eq_getElem hj')
  have hke : k < E.om.length := by rw [h.olen]; exact (List.getElem?_eq_some_iff.1 g1).1
  exact ⟨k, hk, E.om[k], List.getElem?_eq_getElem hke, by rw [List.getD_eq_getElem?_getD, List.getElem?_eq_getElem hke] at hqb; simpa using hqb⟩
theorem Df (h : Rel B [] G w0 st E a w) {i j : Nat} {p q : Value × List Nat} {b : Nat} (hi : E.om[i]? = some p) (hj : E.om[j]? = some q) (hp : p.1.ownBlock = some b) (hq : q.1.ownBlock = some b) : i = j := by
  have hn := h.nodup
  unfold Env.M at hn
  rw [List.nodup_append] at hn
  have : ∀ (L : List (Value × List Nat)) (i j : Nat) (p q : Value × List Nat), (L.flatMap (fun p => p.1.ownBlock.toList)).Nodup → L[i]? = some p → L[j]? = some q → p.1.ownBlock = some b → q.1.ownBlock = some b → i = j := by
    intro L
    induction L with
    | nil => intro i j p q _ hi; simp at hi
    | cons z L ih =>
      intro i j p q hn hi hj hpb hqb
      rw [List.flatMap_cons, List.nodup_append] at hn
      cases i with
      | zero =>
        cases j with
        | zero => rfl
        | succ j =>
          simp at hi hj
          subst hi
          exact absurd rfl (hn.2.2 b (by simp [hpb]) b (List.mem_flatMap.2 ⟨q, List.mem_of_getElem? hj, by simp [hqb]⟩))
      | succ i =>
        cases j with
        | zero =>
          simp at hi hj
          subst hj
          exact absurd rfl (hn.2.2 b (by simp [hqb]) b (List.mem_flatMap.2 ⟨p, List.mem_of_getElem? hi, by simp [hpb]⟩))
        | succ j =>
          simp at hi hj
          rw [ih i j p q hn.2.1 hi hj hpb hqb]
  exact this E.om i j p q hn.2.1 hi hj hp hq
theorem yF (h : Rel B [] G w0 st E a w) (ho : nS st.owns pk os') (hnd : pk.Nodup) : sU B w (mG E pk) os' := by
  obtain ⟨h1, h2⟩ := nZ ho
  refine ⟨by simp [mG, h1], fun j o' p g1 g2 => ?_, ?_⟩
  · have hj : j < pk.length := by rw [h1]; exact (List.getElem?_eq_some_iff.1 g1).1
    have hk := List.getElem?_eq_getElem hj
    obtain ⟨o, g3, g4e, g4o⟩ := h2 j _ o' hk g1
    have g4 := g4o.weak
    rw [g4e]
    have hke : pk[j] < E.om.length := by rw [h.olen]; exact (List.getElem?_eq_some_iff.1 g3).1
    rw [tK hk, List.getD_eq_getElem?_getD, List.getElem?_eq_getElem hke] at g2
    simp only [Option.getD_some, Option.some.injEq] at g2
    subst g2
    obtain ⟨cs, h5, h6, h7, h8⟩ := h.own _ o _ g3 (List.getElem?_eq_getElem hke)
    refine ⟨cs, qF h5 h.eb, h6, h7, fun b hb => ⟨?_, fun hm => ?_⟩⟩
    · rcases g4 with g4 | g4
      · simpa using wC h ((h8 b hb).2 g4)
      · rw [g4 _ _ _ h6] at hb; simp at hb
    · obtain ⟨k, _, p, g5, g6⟩ := Bj h ho hm
      exact (h8 b hb).1 (iQ.2 (Or.inr ⟨k, p, g5, g6⟩))
  · have hpk : ∀ (j : Nat) (o' : Own) (p : Value × List Nat), os'[j]? = some o' → (mG E pk)[j]? = some p → o'.nw.lin = true → p.2 = [] ∨ ∃ o, st.owns[pk.getD j 0]? = some o ∧ E.om[pk.getD j 0]? = some p ∧ o.nw.lin = true := by
      intro j o' p g1 g2 g3
      have hj : j < pk.length := by rw [h1]; exact (List.getElem?_eq_some_iff.1 g1).1
      have hk := List.getElem?_eq_getElem hj
      obtain ⟨o, q1, q2, q3⟩ := h2 j _ o' hk g1
      have hke : pk[j] < E.om.length := by rw [h.olen]; exact (List.getElem?_eq_some_iff.1 q1).1
      rw [tK hk, List.getD_eq_getElem?_getD, List.getElem?_eq_getElem hke] at g2
      simp only [Option.getD_some, Option.some.injEq] at g2
      subst g2
      rcases q3.lin g3 with e | e
      · refine Or.inr ⟨o, ?_, ?_, e⟩
        · rw [List.getD_eq_getElem?_getD, hk]; exact q1
        · rw [List.getD_eq_getElem?_getD, hk]; exact List.getElem?_eq_getElem hke
      · obtain ⟨cs, _, h6, _⟩ := h.own _ o _ q1 (List.getElem?_eq_getElem hke)
        exact Or.inl (e _ _ _ h6)
    refine ⟨?_, ?_, ?_⟩
    rotate_left
    · refine h.lin.map (fun j => pk.getD j 0) (fun i j hij hi hj e => hij ?_) hpk
      have hi' : i < pk.length := by omega
      have hj' : j < pk.length := by omega
      simp only [List.getD_eq_getElem?_getD, List.getElem?_eq_getElem hi', List.getElem?_eq_getElem hj', Option.getD_some] at e
      exact (List.getElem_inj hnd).1 e
    · exact h.unf.map (fun j => pk.getD j 0) hpk
    have : ∀ (pk : List Nat) (os' : List Own), nS st.owns pk os' → pk.Nodup → ((mG E pk).flatMap fun q => q.1.ownBlock.toList).Nodup := by
      intro pk
      induction pk with
      | nil => intro os' _ _; exact List.nodup_nil
      | cons k pk ih =>
        intro os' ho hnd
        match os', ho with
        | o' :: os', ho =>
          rw [List.nodup_cons] at hnd
          obtain ⟨o, g1, _⟩ := ho.1
          have hke : k < E.om.length := by rw [h.olen]; exact (List.getElem?_eq_some_iff.1 g1).1
          show (List.flatMap _ (E.om.getD k (undef, []) :: mG E pk)).Nodup
          rw [List.flatMap_cons, List.nodup_append]
          refine ⟨by cases (E.om.getD k (undef, [])).1.ownBlock <;> simp, ih os' ho.2 hnd.2, fun x hx y hy e => ?_⟩
          subst e
          obtain ⟨k', hk', p, g5, g6⟩ := Bj h ho.2 hy
          rw [List.getD_eq_getElem?_getD, List.getElem?_eq_getElem hke] at hx
          exact hnd.1 (Df h (List.getElem?_eq_getElem hke) g5 (by simpa using hx) g6 ▸ hk')
    exact this pk os' ho hnd
theorem Me (h : Rel B [] G w0 st E a w) (ho : nS st.owns pk os') {x y : AC} {v : Value} (hf : OO st.owns pk x y) (hx : x.ok E st.owns w v) : y.ok ⟨B, mG E pk, [], []⟩ os' w v := by
  have hnew : ∀ b, (B ≤ b) → (∀ k ∈ pk, ∀ p, E.om[k]? = some p → p.1.ownBlock ≠ some b) → b ∉ (⟨B, mG E pk, [], []⟩ : Env).M ∧ (true = true → (⟨B, mG E pk, [], []⟩ : Env).nw b) := fun b hB hk => ⟨fun hm => by
    simp only [Env.M, List.map_nil, List.nil_append] at hm
    obtain ⟨k, hk1, p, g1, g2⟩ := Bj h ho hm
    exact hk k hk1 p g1 g2, fun _ => Or.inl hB⟩
  cases y with
  | any => trivial
  | raw u => cases x with
    | raw v' => obtain rfl := hf; exact hx
    | _ => exact hf.elim
  | sl n l => cases x with
    | sl n' l' =>
      obtain ⟨rfl, rfl, rfl⟩ := hf
      obtain ⟨fp, h1, h2⟩ := hx
      exact ⟨fp, h1, fun b hb => hnew b (by simpa using wC h ((h2 b hb).2 rfl)) (fun k _ p g1 g2 => (h2 b hb).1 (iQ.2 (Or.inr ⟨k, p, g1, g2⟩)))⟩
    | own k i =>
      obtain ⟨rfl, hk, o, h1, h2, rfl, h3⟩ := hf
      obtain ⟨_, o', p, g1, g2, g3, g4⟩ := hx
      rw [h1] at g1
      injection g1 with g1
      subst g1
      obtain rfl := g4 h2
      obtain ⟨cs, h5, h6, h7, h8⟩ := h.own k o p h1 g2
      refine ⟨_, Sl.mP h5 h6, fun b hb => ?_⟩
      rcases List.mem_append.1 hb with hb | hb
      · have hb' : p.1.ownBlock = some b := by simpa using hb
        exact hnew b (Nat.le_trans h.eb (bW.lt h5 b hb').1) (fun k' hk' p' g5 g6 => hk (Df h g2 g5 hb' g6 ▸ hk'))
      · refine hnew b ?_ (fun k' _ p' g5 g6 => (h8 b hb).1 (iQ.2 (Or.inr ⟨k', p', g5, g6⟩)))
        rcases h3 with h3 | h3
        · simpa using wC h ((h8 b hb).2 h3)
        · rw [h3 _ _ _ h6] at hb; simp at hb
    | raw v' => exact hf.elim
    | any => exact hf.elim
    | osub _ _ _ _ => exact hf.elim
    | cl _ _ => exact hf.elim
  | osub _ _ _ _ => cases x <;> exact hf.elim
  | own j z => cases x with
    | own k i =>
      obtain ⟨hj, rfl, o, h1, h2⟩ := hf
      obtain ⟨hv, o', p, g1, g2, g3, g4⟩ := hx
      rw [h1] at g1
      injection g1 with g1
      subst g1
      obtain ⟨l1, l2⟩ := nZ ho
      have hj' : j < os'.length := by rw [← l1]; exact (List.getElem?_eq_some_iff.1 hj).1
      obtain ⟨o2, q1, q2, _⟩ := l2 j k _ hj (List.getElem?_eq_getElem hj')
      refine ⟨hv, os'[j], p, List.getElem?_eq_getElem hj', ?_, Nat.zero_le _, fun _ => g4 h2⟩
      rw [tK hj, List.getD_eq_getElem?_getD, g2]
      rfl
    | _ => exact hf.elim
  | cl f caps => cases x <;> exact hf.elim
theorem qO (h : Rel B [] G w0 st E a w) (ho : nS st.owns pk os') : ∀ {xs ys : List AC} {vs : List Value}, uO st.owns pk xs ys → Oks E st.owns w xs vs → Oks ⟨B, mG E pk, [], []⟩ os' w ys vs
  | [], [], [], _, _ => trivial
  | x :: xs, y :: ys, v :: vs, hf, hx => ⟨Me h ho hf.1 hx.1, qO h ho hf.2 hx.2⟩
  | [], [], _ :: _, _, hx => hx.elim
  | _ :: _, _ :: _, [], _, hx => hx.elim
  | [], _ :: _, _, hf, _ => hf.elim
  | _ :: _, [], _, hf, _ => hf.elim
theorem JX {P : Program} (h : Rel B [] G w0 st E a w) (ho : nS st.owns pk os') {r : ResultVar} {g : Bool} {ys : List AC} (hp : dY P r g ys.length = true) (hf : UH pk r g ys st) :
    ∃ v, (iP r a.tmps).run P w = .ok v w ∧ Gok ⟨B, mG E pk, [], []⟩ os' w g ys v := by
  cases r with
  | tmp t =>
    obtain ⟨xs, h1, h2⟩ := hf
    refine ⟨_, rfl, ?_⟩
    have hx := qA h h1
    cases g with
    | true => obtain ⟨vs, h3, h4⟩ := hx; exact ⟨vs, h3, qO h ho h2 h4⟩
    | false => exact qO h ho h2 (show Oks _ _ _ xs [_] from hx)
  | cell t ty =>
    obtain ⟨k, xs, h1, h2, h3⟩ := hf
    simp only [dY, Bool.and_eq_true, pR] at hp
    obtain ⟨rfl, hp⟩ := hp
    split at hp
    · next i d hi hd =>
      simp only [Bool.and_eq_true, beq_iff_eq] at hp
      obtain ⟨p, g1, g2⟩ := qA h h1
      obtain ⟨_, vs, h4, h5⟩ := h.box k xs p h2 g1
      have hlen : vs.length = i.size := by rw [← h5.len, xU h3, hp.1]
      refine ⟨.agg vs.toArray, ?_, vs, rfl, qO h ho h3 h5⟩
      simp only [iP]
      rw [g2]
      have := run_loadVar_row (P := P) w p.1 p.2 ty vs.toArray (0, 0) d h4 hd (by have := hp.2; cases d <;> simp_all [lQ]) (by rw [hi]; simp [hlen])
      simp [asAddr, this]
    · cases hp
end
theorem Ku {r q : ResultVar} {g g' : Bool} {ys zs : List AC} {os' : List Own} (hf : P.funcs[f]? = some fn) (hb : fn.body = some code) (hr : fn.results = #[r, q]) (hp : (dY P r g ys.length && dY P q g' zs.length) = true) (hc : aF P code = some ic)
    (h : AWP P ic (kH (fun st => ∃ pk : List Nat, pk.Nodup ∧ nS st.owns pk os' ∧ UH pk r g ys st ∧ UH pk q g' zs st)) (st0 fn.ntmps ds)) : sV P f ds (.tup [(g, ys), (g', zs)]) os' := by
  refine nM (post := fun w e w' => x9 (.tup [(g, ys), (g', zs)]) os' w e w') hf hb hc h ?_
  rintro G w w' st E a hR ⟨pk, hnd, ho, h1, h2⟩
  simp only [Bool.and_eq_true] at hp
  obtain ⟨v, h3, h4⟩ := JX hR ho hp.1 h1
  obtain ⟨u, h5, h6⟩ := JX hR ho hp.2 h2
  exact ⟨_, qC hr _ h3 h5, _, mG E pk, rfl, yF hR ho hnd, ⟨[v, u], rfl, h4, h6, trivial⟩, hR.below.out⟩
theorem CY {t : Nat} {ty : TypeId} {l : List D} {e s : Nat} (hf : P.funcs[f]? = some fn) (hb : fn.body = some code) (hr : fn.results = #[.cell t ty]) (hp : pR P ty 1 = true) (hc : aF P code = some ic)
    (h : AWP P ic (kH (XQ t l e s)) (st0 fn.ntmps ds)) : kR P f ds true l e s := by
  refine nM (post := fun w e' w' => xZ true l e s w e' w') hf hb hc h ?_
  rintro G w w' st E a hR ⟨b, k, i, h1, h2, h3⟩
  simp only [pR] at hp
  split at hp
  · next inf d hi hd =>
    simp only [Bool.and_eq_true, beq_iff_eq] at hp
    obtain ⟨p, g1, g2⟩ := qA hR h1
    obtain ⟨_, vs, h4, h5⟩ := hR.box b _ p h2 g1
    match vs, h5 with
    | [v], h5 =>
      obtain ⟨cs, f', h6, h7, h8⟩ := RQ hR h5.1 h3
      refine ⟨.agg #[v], lY hr _ ?_, v, cs, f', rfl, h6, h7, h8, hR.below.out⟩
      simp only [iP]
      rw [g2]
      have := run_loadVar_row (P := P) w' p.1 p.2 ty #[v] (0, 0) d (by simpa [Row] using h4) hd (by have := hp.2; cases d <;> simp_all [lQ]) (by rw [hi]; simp [hp.1])
      simp [asAddr, this]
  · cases hp
end
section
variable {lo : Nat × Nat} {P : Program} {y : IC} {Q : Exit → St → Prop} {st : St} {i j : Nat} {c : Opd}
theorem rP (h : eU lo P y Q st) : G8 lo P y Q .normal st := h
theorem jv (h : Q (.exit i) st) : G8 lo P y Q (.exit i) st := h
theorem kK (h : Q .ret st) : G8 lo P y Q .ret st := h
theorem fG (h : Q .normal st) : zk i Q .normal st := h
theorem jF (h : Q .ret st) : zk i Q .ret st := h
theorem iH (h : Q .normal st) : zk i Q (.exit i) st := by
  show ite _ _ _
  rw [if_pos rfl]
  exact h
theorem iG (hij : (j == i) = false) (h : Q (.exit j) st) : zk i Q (.exit j) st := by
  show ite _ _ _
  rw [if_neg (by simpa using hij)]
  exact h
theorem iD {X : Type} {F : X → St} {inv : X → Prop} {μ : X → Nat} {x : X} (h : Q (.exit i) st) : wO F inv μ x Q (.exit i) st := h
theorem jC {X : Type} {F : X → St} {inv : X → Prop} {μ : X → Nat} {x : X} (h : Q .ret st) : wO F inv μ x Q .ret st := h
theorem aS {Fin : St → Prop} (h : Fin st) : kH Fin .ret st := h
theorem iI {x : IC} (hb : st.ev c = .c false [.raw (.bool true)]) (h : eU lo P x Q st) : eU lo P (.cond c x y) Q st := Dh hb (fun _ => h) (fun e => by cases e)
theorem iJ {x : IC} (hb : st.ev c = .c false [.raw (.bool false)]) (h : eU lo P y Q st) : eU lo P (.cond c x y) Q st := Dh hb (fun e => by cases e) (fun _ => h)
end
theorem Ru {x0 : Opd} : I.plain (.mov x0) = true := by simp only [I.plain]
theorem Ns {x0 : Opd} {x1 : Opd} {x2 : Opd} : I.plain (.pick x0 x1 x2) = true := by simp only [I.plain]
theorem RJ {x0 : BinOp} {x1 : Opd} {x2 : Opd} : I.plain (.bin x0 x1 x2) = true := by simp only [I.plain]
theorem RN {x0 : Bool} {x1 : Opd} {x2 : Opd} : I.plain (.beq x0 x1 x2) = true := by simp only [I.plain]
theorem Rq {x0 : Opd} : I.plain (.not x0) = true := by simp only [I.plain]
theorem Nu {x0 : Nat} {x1 : Bool} {x2 : Opd} : I.plain (.load x0 x1 x2) = true := by simp only [I.plain]
theorem Rz {x0 : Nat} {x1 : Opd} : I.plain (.fad x0 x1) = true := by simp only [I.plain]
theorem Rt {x0 : Opd} : I.plain (.nck x0) = true := by simp only [I.plain]
theorem Ik {x0 : List Value} : I.plain (.alloc x0) = true := by simp only [I.plain]
theorem RH {x0 : Opd} : I.plain (.box x0) = true := by simp only [I.plain]
theorem Ij {x0 : Nat} {x1 : Opd} {x2 : Opd} : I.plain (.store x0 x1 x2) = true := by simp only [I.plain]
theorem Ny {x0 : Bool} {x1 : Nat} {x2 : Nat} {x3 : Nat} {x4 : Bool} {x5 : List Opd} : I.plain (.brow x0 x1 x2 x3 x4 x5) = true := by simp only [I.plain]
theorem RI {x0 : List Value} {x1 : List (Nat × Nat × Opd)} : I.plain (.bld x0 x1) = true := by simp only [I.plain]
theorem Ry {x0 : Nat} {x1 : Nat} {x2 : Bool} {x3 : Opd} : I.plain (.fld x0 x1 x2 x3) = true := by simp only [I.plain]
theorem Nr {x0 : Opd} {x1 : Opd} : I.plain (.sidx x0 x1) = true := by simp only [I.plain]
theorem Ro {x0 : Opd} {x1 : Option Opd} {x2 : Option Opd} : I.plain (.ssl x0 x1 x2) = true := by simp only [I.plain]
theorem RD {x0 : Nat} {x1 : Opd} : I.plain (.ext x0 x1) = true := by simp only [I.plain]
theorem Rx {x0 : Bool} {x1 : Opd} : I.plain (.len x0 x1) = true := by simp only [I.plain]
theorem QW {x0 : Opd} : I.plainW (.mov x0) = true := by simp only [I.plainW]
theorem Nc {x0 : Opd} {x1 : Opd} {x2 : Opd} : I.plainW (.pick x0 x1 x2) = true := by simp only [I.plainW]
theorem Ri {x0 : BinOp} {x1 : Opd} {x2 : Opd} : I.plainW (.bin x0 x1 x2) = true := by simp only [I.plainW]
theorem Rj {x0 : Bool} {x1 : Opd} {x2 : Opd} : I.plainW (.beq x0 x1 x2) = true := by simp only [I.plainW]
theorem QU {x0 : Opd} : I.plainW (.not x0) = true := by simp only [I.plainW]
theorem Nh {x0 : Nat} {x1 : Bool} {x2 : Opd} : I.plainW (.load x0 x1 x2) = true := by simp only [I.plainW]
theorem Q5 {x0 : Nat} {x1 : Opd} : I.plainW (.fad x0 x1) = true := by simp only [I.plainW]
theorem QV {x0 : Opd} : I.plainW (.nck x0) = true := by simp only [I.plainW]
theorem Ih {x0 : List Value} : I.plainW (.alloc x0) = true := by simp only [I.plainW]
theorem Rf {x0 : Opd} : I.plainW (.box x0) = true := by simp only [I.plainW]
theorem Rh {x0 : List Value} {x1 : List (Nat × Nat × Opd)} : I.plainW (.bld x0 x1) = true := by simp only [I.plainW]
theorem QZ {x0 : Nat} {x1 : Nat} {x2 : Bool} {x3 : Opd} : I.plainW (.fld x0 x1 x2 x3) = true := by simp only [I.plainW]
theorem Nb {x0 : Opd} {x1 : Opd} : I.plainW (.sidx x0 x1) = true := by simp only [I.plainW]
theorem QT {x0 : Opd} {x1 : Option Opd} {x2 : Option Opd} : I.plainW (.ssl x0 x1 x2) = true := by simp only [I.plainW]
theorem Q7 {x0 : Nat} {x1 : Opd} : I.plainW (.ext x0 x1) = true := by simp only [I.plainW]
theorem QY {x0 : Bool} {x1 : Opd} : I.plainW (.len x0 x1) = true := by simp only [I.plainW]
theorem Rw {f : Nat} {xs : List Opd} : I.plain (.mkf f xs) = true := by simp only [I.plain]
theorem Nv {b : Bool} {x : Opd} : I.plain (.fnil b x) = true := by simp only [I.plain]
theorem Nq {b : Bool} {x : Opd} : I.plain (.snil b x) = true := by simp only [I.plain]
theorem Nz {b : Bool} {k : List Value} {x y : Opd} : I.plain (.beqS b k x y) = true := by simp only [I.plain]
theorem Nk {b : Bool} {k : List Value} {x y : Opd} : I.plainW (.beqS b k x y) = true := by simp only [I.plainW]
theorem Ot {b : Bool} {k : List Value} {x y : Opd} : eff (.beqS b k x y) = false := by simp [eff, I.cls]
theorem RG {k : IntKind} {x : Opd} : I.plain (.cvi k x) = true := by simp only [I.plain]
theorem RF {x : Opd} : I.plain (.cvs x) = true := by simp only [I.plain]
theorem ND {e : Nat} {x y : Opd} : I.plain (.apps e x y) = true := by simp only [I.plain]
theorem Q9 {k : IntKind} {x : Opd} : I.plainW (.cvi k x) = true := by simp only [I.plainW]
theorem Q8 {x : Opd} : I.plainW (.cvs x) = true := by simp only [I.plainW]
theorem Nl {e : Nat} {x y : Opd} : I.plainW (.apps e x y) = true := by simp only [I.plainW]
theorem TP {k : IntKind} {x : Opd} : eff (.cvi k x) = false := by simp [eff, I.cls]
theorem TN {x : Opd} : eff (.cvs x) = false := by simp [eff, I.cls]
theorem Ou {e : Nat} {x y : Opd} : eff (.apps e x y) = true := by simp [eff, I.cls]
theorem Wh {e : Nat} {z : Value} {x : Opd} : I.plain (.mk e z x) = true := by simp only [I.plain]
theorem QX {f : Nat} {xs : List Opd} : I.plainW (.mkf f xs) = true := by simp only [I.plainW]
theorem Nj {b : Bool} {x : Opd} : I.plainW (.fnil b x) = true := by simp only [I.plainW]
theorem Na {b : Bool} {x : Opd} : I.plainW (.snil b x) = true := by simp only [I.plainW]
theorem V9 {e : Nat} {z : Value} {x : Opd} : I.plainW (.mk e z x) = true := by simp only [I.plainW]
theorem TI {f : Nat} {xs : List Opd} : eff (.mkf f xs) = false := by simp [eff, I.cls]
theorem Om {b : Bool} {x : Opd} : eff (.fnil b x) = false := by simp [eff, I.cls]
theorem Oh {b : Bool} {x : Opd} : eff (.snil b x) = false := by simp [eff, I.cls]
theorem Ws {e : Nat} {z : Value} {x : Opd} : eff (.mk e z x) = true := by simp [eff, I.cls]
theorem TG {x0 : Opd} : eff (.mov x0) = false := by simp [eff, I.cls]
theorem Oj {x0 : Opd} {x1 : Opd} {x2 : Opd} : eff (.pick x0 x1 x2) = false := by simp [eff, I.cls]
theorem TS {x0 : BinOp} {x1 : Opd} {x2 : Opd} : eff (.bin x0 x1 x2) = false := by simp [eff, I.cls]
theorem TT {x0 : Bool} {x1 : Opd} {x2 : Opd} : eff (.beq x0 x1 x2) = false := by simp [eff, I.cls]
theorem TD {x0 : Opd} : eff (.not x0) = false := by simp [eff, I.cls]
theorem Ol {x0 : Nat} {x1 : Bool} {x2 : Opd} : eff (.load x0 x1 x2) = false := by simp [eff, I.cls]
theorem TL {x0 : Nat} {x1 : Opd} : eff (.fad x0 x1) = false := by simp [eff, I.cls]
theorem TF {x0 : Opd} : eff (.nck x0) = false := by simp [eff, I.cls]
theorem J4 {x0 : List Value} : eff (.alloc x0) = true := by simp [eff, I.cls]
theorem TQ {x0 : Opd} : eff (.box x0) = true := by simp [eff, I.cls]
theorem J3 {x0 : Nat} {x1 : Opd} {x2 : Opd} : eff (.store x0 x1 x2) = true := by simp [eff, I.cls]
theorem TR {x0 : List Value} {x1 : List (Nat × Nat × Opd)} : eff (.bld x0 x1) = false := by simp [eff, I.cls]
theorem TK {x0 : Nat} {x1 : Nat} {x2 : Bool} {x3 : Opd} : eff (.fld x0 x1 x2 x3) = false := by simp [eff, I.cls]
theorem Oi {x0 : Opd} {x1 : Opd} : eff (.sidx x0 x1) = false := by simp [eff, I.cls]
theorem TB {x0 : Opd} {x1 : Option Opd} {x2 : Option Opd} : eff (.ssl x0 x1 x2) = false := by simp [eff, I.cls]
theorem TM {x0 : Nat} {x1 : Opd} : eff (.ext x0 x1) = false := by simp [eff, I.cls]
theorem TJ {x0 : Bool} {x1 : Opd} : eff (.len x0 x1) = false := by simp [eff, I.cls]
theorem Oo {e s n : Nat} {g : Bool} {xs : List Opd} : eff (.brow false e s n g xs) = false := by simp [eff, I.cls]
theorem Oq {e s n : Nat} {g : Bool} {xs : List Opd} : eff (.brow true e s n g xs) = true := by simp [eff, I.cls]
theorem yI {st : St} : mo true st = [] := by simp [mo]
theorem yJ {st : St} : mo false st = st.owns := by simp [mo]
inductive Sp where
  | k
  | d
  | v (x : AV)
def fF : List Sp → List AV → List AV
  | .k :: ss, x :: xs => x :: fF ss xs
  | .d :: ss, _ :: xs => .any :: fF ss xs
  | .v y :: ss, _ :: xs => y :: fF ss xs
  | _, _ => []
def FB {X : Type} (fr0 : List AV) (bs0 : List (List AC)) (sp : X → List Sp) (ow : X → List Own) (bx : X → List (List AC) → List (List AC)) (x : X) : St := ⟨fF (sp x) fr0, ow x, bx x bs0⟩
theorem kQ {P : Program} {Q : Exit → St → Prop} {X : Type} {c : IC} {fr0 : List AV} {os0 : List Own} {bs0 : List (List AC)} (sp : X → List Sp) (ow : X → List Own) (bx : X → List (List AC) → List (List AC)) (inv : X → Prop) (μ : X → Nat) (x0 : X) (h0 : inv x0)
    (hle : gu ⟨fr0, os0, bs0⟩ (FB fr0 bs0 sp ow bx x0)) (round : ∀ x, inv x → AWP P c (wO (FB fr0 bs0 sp ow bx) inv μ x Q) (FB fr0 bs0 sp ow bx x)) : AWP P (.loop c) Q ⟨fr0, os0, bs0⟩ :=
  Uu (FB fr0 bs0 sp ow bx) inv μ x0 h0 (wR hle) round
theorem iZ {Q : Exit → St → Prop} {st : St} {X : Type} {F : X → St} {inv : X → Prop} {μ : X → Nat} {x : X} (x' : X) (h1 : gu st (F x')) (h2 : inv x') (h3 : μ x' < μ x) : wO F inv μ x Q .normal st := ⟨x', wR h1, h2, h3⟩
theorem fV (b : Bool) (n : Int) : (li n).acs b = [.raw (.int .i64 n)] := rfl
theorem fU (b : Bool) (s : ByteArray) : (ls s).acs b = [.raw (.string s)] := rfl
theorem pW (b : Bool) (v : Value) : (D.leaf v).acs b = [.raw v] := rfl
theorem lJ (b : Bool) (l : List D) : (D.sl l).acs b = [.sl b l] := rfl
theorem jW (l : List Int) : El 1 (l.map li) := fun d h => by obtain ⟨x, _, rfl⟩ := List.mem_map.1 h; exact ⟨rfl, rfl⟩
theorem jr (l : List ByteArray) : El 1 (l.map ls) := fun d h => by obtain ⟨x, _, rfl⟩ := List.mem_map.1 h; exact ⟨rfl, rfl⟩
theorem Tz (s : Nat) : El s [] := fun d h => by simp at h
theorem Og {s : Nat} {d : D} {l : List D} : El s (d :: l) = ((d.one ∧ d.sz = s) ∧ El s l) := by
  apply propext
  constructor
  · intro h
    exact ⟨h d (by simp), fun x hx => h x (by simp [hx])⟩
  · rintro ⟨h1, h2⟩ x hx
    rcases List.mem_cons.1 hx with rfl | hx
    · exact h1
    · exact h2 x hx
theorem pq {α : Type} {g : α → D} (hg : ∀ (x : α) (w : World) (f : List Nat) (cs : List Value), R w (g x) f cs → f = []) : ∀ (l : List α), eY (l.map g)
  | [], w, f, cs, h => h.1
  | x :: l, w, f, cs, h => by
    rw [List.map_cons, Rs] at h
    obtain ⟨f1, f2, c1, c2, rfl, rfl, h1, h2⟩ := h
    rw [hg x w f1 c1 h1, pq hg l w f2 c2 h2]
    rfl
theorem xq (l : List D) (k : Nat) : idx l (some (k : Int)) = l[k]? := by simp [idx]
theorem dR {α : Type} (f : α → D) (l : List α) {k : Nat} (h : k < l.length) : idx (l.map f) (some (k : Int)) = some (f l[k]) := by
  rw [xq, List.getElem?_map, List.getElem?_eq_getElem h]
  rfl
theorem fE {n : Nat} (h : n ≤ 9223372036854775806) : IntKind.i64.wrap ((n : Int) + 1) = ((n + 1 : Nat) : Int) := by
  rw [IntWalk.i64_in _ (by omega)]
  rfl
theorem xZ.tos {l : List D} {e s : Nat} {w : World} {en : Ending} {w' : World} (h : xZ false l e s w en w') (hf : eY l) : qQ l w en w' := by
  obtain ⟨v, cs, f, rfl, h1, h2, h3, h4⟩ := h
  have := hf _ _ _ h2
  subst this
  exact ⟨_, v, rfl, Sl.mP h1 h2, gG.mP h1 gG.nil (fun g hg => by simp), h4⟩
theorem Du.to {P : Program} {f : Nat} {ds l : List D} {e s : Nat} (h : Du P f ds l e s) (hf : eY l) : aK P f ds (.c false [.sl true l]) := by
  intro w vs hr ht
  refine (h w vs hr ht).mono ?_
  rintro en w' ⟨v, cs, f', rfl, h1, h2, h3, h4⟩
  have := hf _ _ _ h2
  subst this
  refine ⟨v, rfl, ⟨⟨_, Sl.mP h1 h2, fun b hb => ?_⟩, trivial⟩, h4⟩
  rw [List.append_nil] at hb
  have := (bW.lt h1 b (by simpa using hb)).1
  exact ⟨rE.2 this, fun _ => Or.inl this⟩
theorem GOrigin.bf (x : GOrigin) : x.toD.flat = [.leaf (.int .i64 x.cell), .leaf (.int .i64 x.row)] := by
  simp [GOrigin.aQ, D.flat, D.jD, li, ls]
theorem GOrigin.bH (x : GOrigin) (b : Bool) : x.toD.acs b = [.raw (.int .i64 x.cell), .raw (.int .i64 x.row)] := by
  simp [D.acs, GOrigin.bf, D.ac]
theorem GOrigin.bV (x : GOrigin) : x.toD.isAgg = true := by rw [GOrigin.aQ]; rfl
theorem GOrigin.jc (x : GOrigin) : x.toD.one := by
  simp [GOrigin.aQ, D.one, D.ones, li, ls, Value.oneCell']
theorem GOrigin.el (l : List GOrigin) : El 2 (l.map GOrigin.toD) := fun d h => by obtain ⟨x, _, rfl⟩ := List.mem_map.1 h; exact ⟨x.jc, x.dZ⟩
theorem GOrigin.dK (l : List GOrigin) : eY (l.map GOrigin.toD) := pq (fun x w f cs h => (GOrigin.opened.1 h).1) l
theorem GRow.bf (x : GRow) : x.toD.flat = [.sl (x.cells.map li), .sl (x.src.map GOrigin.toD)] := by
  simp [GRow.aQ, D.flat, D.jD, li, ls]
theorem GRow.bH (x : GRow) (b : Bool) : x.toD.acs b = [.sl b (x.cells.map li), .sl b (x.src.map GOrigin.toD)] := by
  simp [D.acs, GRow.bf, D.ac]
theorem GRow.bV (x : GRow) : x.toD.isAgg = true := by rw [GRow.aQ]; rfl
theorem GRow.jc (x : GRow) : x.toD.one := by
  simp [GRow.aQ, D.one, D.ones, li, ls, Value.oneCell']
theorem GRow.el (l : List GRow) : El 2 (l.map GRow.toD) := fun d h => by obtain ⟨x, _, rfl⟩ := List.mem_map.1 h; exact ⟨x.jc, x.dZ⟩
theorem GVal.bf (x : GVal) : x.toD.flat = [.leaf (.int .i64 x.kind), .leaf (.int .i64 x.n), .leaf (.int .i64 x.step), .leaf (.string x.text), .sl (x.list.map GVal.toD), .sl (x.cols.map ls), .sl (x.rows.map GRow.toD)] := by
  simp [GVal.aQ, D.flat, D.jD, li, ls]
theorem GVal.bH (x : GVal) (b : Bool) : x.toD.acs b = [.raw (.int .i64 x.kind), .raw (.int .i64 x.n), .raw (.int .i64 x.step), .raw (.string x.text), .sl b (x.list.map GVal.toD), .sl b (x.cols.map ls), .sl b (x.rows.map GRow.toD)] := by
  simp [D.acs, GVal.bf, D.ac]
theorem GVal.bV (x : GVal) : x.toD.isAgg = true := by rw [GVal.aQ]; rfl
theorem GVal.jc (x : GVal) : x.toD.one := by
  simp [GVal.aQ, D.one, D.ones, li, ls, Value.oneCell']
theorem GVal.el (l : List GVal) : El 7 (l.map GVal.toD) := fun d h => by obtain ⟨x, _, rfl⟩ := List.mem_map.1 h; exact ⟨x.jc, x.dZ⟩
theorem GTok.bf (x : GTok) : x.toD.flat = [.leaf (.int .i64 x.kind), .leaf (.int .i64 x.n), .leaf (.int .i64 x.pos), .leaf (.string x.text)] := by
  simp [GTok.aQ, D.flat, D.jD, li, ls]
theorem GTok.bH (x : GTok) (b : Bool) : x.toD.acs b = [.raw (.int .i64 x.kind), .raw (.int .i64 x.n), .raw (.int .i64 x.pos), .raw (.string x.text)] := by
  simp [D.acs, GTok.bf, D.ac]
theorem GTok.bV (x : GTok) : x.toD.isAgg = true := by rw [GTok.aQ]; rfl
theorem GTok.jc (x : GTok) : x.toD.one := by
  simp [GTok.aQ, D.one, D.ones, li, ls, Value.oneCell']
theorem GTok.el (l : List GTok) : El 4 (l.map GTok.toD) := fun d h => by obtain ⟨x, _, rfl⟩ := List.mem_map.1 h; exact ⟨x.jc, x.dZ⟩
theorem GTok.dK (l : List GTok) : eY (l.map GTok.toD) := pq (fun x w f cs h => (GTok.opened.1 h).1) l
theorem GExpr.bf (x : GExpr) : x.toD.flat = [.leaf (.int .i64 x.kind), .leaf (.int .i64 x.n), .leaf (.string x.text), .sl (x.args.map GExpr.toD)] := by
  simp [GExpr.aQ, D.flat, D.jD, li, ls]
theorem GExpr.bH (x : GExpr) (b : Bool) : x.toD.acs b = [.raw (.int .i64 x.kind), .raw (.int .i64 x.n), .raw (.string x.text), .sl b (x.args.map GExpr.toD)] := by
  simp [D.acs, GExpr.bf, D.ac]
theorem GExpr.bV (x : GExpr) : x.toD.isAgg = true := by rw [GExpr.aQ]; rfl
theorem GExpr.jc (x : GExpr) : x.toD.one := by
  simp [GExpr.aQ, D.one, D.ones, li, ls, Value.oneCell']
theorem GExpr.el (l : List GExpr) : El 4 (l.map GExpr.toD) := fun d h => by obtain ⟨x, _, rfl⟩ := List.mem_map.1 h; exact ⟨x.jc, x.dZ⟩
theorem GCell.bf (x : GCell) : x.toD.flat = [.leaf (.int .i64 x.id), .leaf (.int .i64 x.ver), .leaf (.int .i64 x.kind), .leaf (.string x.name), .leaf (.string x.code), .leaf (.int .i64 x.n)] := by
  simp [GCell.aQ, D.flat, D.jD, li, ls]
theorem GCell.bH (x : GCell) (b : Bool) : x.toD.acs b = [.raw (.int .i64 x.id), .raw (.int .i64 x.ver), .raw (.int .i64 x.kind), .raw (.string x.name), .raw (.string x.code), .raw (.int .i64 x.n)] := by
  simp [D.acs, GCell.bf, D.ac]
theorem GCell.bV (x : GCell) : x.toD.isAgg = true := by rw [GCell.aQ]; rfl
theorem GCell.jc (x : GCell) : x.toD.one := by
  simp [GCell.aQ, D.one, D.ones, li, ls, Value.oneCell']
theorem GCell.el (l : List GCell) : El 6 (l.map GCell.toD) := fun d h => by obtain ⟨x, _, rfl⟩ := List.mem_map.1 h; exact ⟨x.jc, x.dZ⟩
theorem GCell.dK (l : List GCell) : eY (l.map GCell.toD) := pq (fun x w f cs h => (GCell.opened.1 h).1) l
theorem GNb.bf (x : GNb) : x.toD.flat = [.sl (x.cells.map GCell.toD)] := by
  simp [GNb.aQ, D.flat, D.jD, li, ls]
theorem GNb.bH (x : GNb) (b : Bool) : x.toD.acs b = [.sl b (x.cells.map GCell.toD)] := by
  simp [D.acs, GNb.bf, D.ac]
theorem GNb.bV (x : GNb) : x.toD.isAgg = true := by rw [GNb.aQ]; rfl
theorem GNb.jc (x : GNb) : x.toD.one := by
  simp [GNb.aQ, D.one, D.ones, li, ls, Value.oneCell']
theorem GNb.el (l : List GNb) : El 1 (l.map GNb.toD) := fun d h => by obtain ⟨x, _, rfl⟩ := List.mem_map.1 h; exact ⟨x.jc, x.dZ⟩
theorem GPart.bf (x : GPart) : x.toD.flat = [.leaf (.int .i64 x.kind), .leaf (.string x.name), .leaf (.int .i64 x.expr.kind), .leaf (.int .i64 x.expr.n), .leaf (.string x.expr.text), .sl (x.expr.args.map GExpr.toD), .leaf (.int .i64 x.value.kind), .leaf (.int .i64 x.value.n), .leaf (.int .i64 x.value.step), .leaf (.string x.value.text), .sl (x.value.list.map GVal.toD), .sl (x.value.cols.map ls), .sl (x.value.rows.map GRow.toD), .leaf (.int .i64 x.pos)] := by
  simp [GPart.aQ, GExpr.aQ, GVal.aQ, D.flat, D.jD, li, ls]
theorem GPart.bH (x : GPart) (b : Bool) : x.toD.acs b = [.raw (.int .i64 x.kind), .raw (.string x.name), .raw (.int .i64 x.expr.kind), .raw (.int .i64 x.expr.n), .raw (.string x.expr.text), .sl b (x.expr.args.map GExpr.toD), .raw (.int .i64 x.value.kind), .raw (.int .i64 x.value.n), .raw (.int .i64 x.value.step), .raw (.string x.value.text), .sl b (x.value.list.map GVal.toD), .sl b (x.value.cols.map ls), .sl b (x.value.rows.map GRow.toD), .raw (.int .i64 x.pos)] := by
  simp [D.acs, GPart.bf, D.ac]
theorem GPart.bV (x : GPart) : x.toD.isAgg = true := by rw [GPart.aQ]; rfl
theorem GPart.jc (x : GPart) : x.toD.one := by
  simp [GPart.aQ, GExpr.aQ, GVal.aQ, D.one, D.ones, li, ls, Value.oneCell']
theorem GPart.el (l : List GPart) : El 14 (l.map GPart.toD) := fun d h => by obtain ⟨x, _, rfl⟩ := List.mem_map.1 h; exact ⟨x.jc, x.dZ⟩
theorem GEdit.bf (x : GEdit) : x.toD.flat = [.leaf (.int .i64 x.kind), .leaf (.int .i64 x.pos), .leaf (.int .i64 x.cell.id), .leaf (.int .i64 x.cell.ver), .leaf (.int .i64 x.cell.kind), .leaf (.string x.cell.name), .leaf (.string x.cell.code), .leaf (.int .i64 x.cell.n)] := by
  simp [GEdit.aQ, GCell.aQ, D.flat, D.jD, li, ls]
theorem GEdit.bH (x : GEdit) (b : Bool) : x.toD.acs b = [.raw (.int .i64 x.kind), .raw (.int .i64 x.pos), .raw (.int .i64 x.cell.id), .raw (.int .i64 x.cell.ver), .raw (.int .i64 x.cell.kind), .raw (.string x.cell.name), .raw (.string x.cell.code), .raw (.int .i64 x.cell.n)] := by
  simp [D.acs, GEdit.bf, D.ac]
theorem GEdit.bV (x : GEdit) : x.toD.isAgg = true := by rw [GEdit.aQ]; rfl
theorem GEdit.jc (x : GEdit) : x.toD.one := by
  simp [GEdit.aQ, GCell.aQ, D.one, D.ones, li, ls, Value.oneCell']
theorem GEdit.el (l : List GEdit) : El 8 (l.map GEdit.toD) := fun d h => by obtain ⟨x, _, rfl⟩ := List.mem_map.1 h; exact ⟨x.jc, x.dZ⟩
theorem GEdit.dK (l : List GEdit) : eY (l.map GEdit.toD) := pq (fun x w f cs h => (GEdit.opened.1 h).1) l
theorem GRead.bf (x : GRead) : x.toD.flat = [.leaf (.int .i64 x.kind), .leaf (.int .i64 x.n), .leaf (.int .i64 x.time), .leaf (.string x.text), .leaf (.int .i64 x.result.kind), .leaf (.int .i64 x.result.n), .leaf (.int .i64 x.result.step), .leaf (.string x.result.text), .sl (x.result.list.map GVal.toD), .sl (x.result.cols.map ls), .sl (x.result.rows.map GRow.toD)] := by
  simp [GRead.aQ, GVal.aQ, D.flat, D.jD, li, ls]
theorem GRead.bH (x : GRead) (b : Bool) : x.toD.acs b = [.raw (.int .i64 x.kind), .raw (.int .i64 x.n), .raw (.int .i64 x.time), .raw (.string x.text), .raw (.int .i64 x.result.kind), .raw (.int .i64 x.result.n), .raw (.int .i64 x.result.step), .raw (.string x.result.text), .sl b (x.result.list.map GVal.toD), .sl b (x.result.cols.map ls), .sl b (x.result.rows.map GRow.toD)] := by
  simp [D.acs, GRead.bf, D.ac]
theorem GRead.bV (x : GRead) : x.toD.isAgg = true := by rw [GRead.aQ]; rfl
theorem GRead.jc (x : GRead) : x.toD.one := by
  simp [GRead.aQ, GVal.aQ, D.one, D.ones, li, ls, Value.oneCell']
theorem GRead.el (l : List GRead) : El 11 (l.map GRead.toD) := fun d h => by obtain ⟨x, _, rfl⟩ := List.mem_map.1 h; exact ⟨x.jc, x.dZ⟩
theorem GTape.bf (x : GTape) : x.toD.flat = [.leaf (.int .i64 x.cell), .leaf (.int .i64 x.ver), .sl (x.reads.map GRead.toD)] := by
  simp [GTape.aQ, D.flat, D.jD, li, ls]
theorem GTape.bH (x : GTape) (b : Bool) : x.toD.acs b = [.raw (.int .i64 x.cell), .raw (.int .i64 x.ver), .sl b (x.reads.map GRead.toD)] := by
  simp [D.acs, GTape.bf, D.ac]
theorem GTape.bV (x : GTape) : x.toD.isAgg = true := by rw [GTape.aQ]; rfl
theorem GTape.jc (x : GTape) : x.toD.one := by
  simp [GTape.aQ, D.one, D.ones, li, ls, Value.oneCell']
theorem GTape.el (l : List GTape) : El 3 (l.map GTape.toD) := fun d h => by obtain ⟨x, _, rfl⟩ := List.mem_map.1 h; exact ⟨x.jc, x.dZ⟩
theorem UO : type_of% (XR @GOrigin.bf (XR @GOrigin.bH (XR @GOrigin.bV (XR @GRow.bf (XR @GRow.bH (XR @GRow.bV (XR @GVal.bf (XR @GVal.bH (XR @GVal.bV (XR @GTok.bf (XR @GTok.bH (XR @GTok.bV (XR @GExpr.bf (XR @GExpr.bH (XR @GExpr.bV (XR @GCell.bf (XR @GCell.bH (XR @GCell.bV (XR @GNb.bf (XR @GNb.bH (XR @GNb.bV (XR @GPart.bf (XR @GPart.bH (XR @GPart.bV (XR @GEdit.bf (XR @GEdit.bH (XR @GEdit.bV (XR @GRead.bf (XR @GRead.bH (XR @GRead.bV (XR @GTape.bf (XR @GTape.bH (@GTape.bV))))))))))))))))))))))))))))))))) := XR @GOrigin.bf (XR @GOrigin.bH (XR @GOrigin.bV (XR @GRow.bf (XR @GRow.bH (XR @GRow.bV (XR @GVal.bf (XR @GVal.bH (XR @GVal.bV (XR @GTok.bf (XR @GTok.bH (XR @GTok.bV (XR @GExpr.bf (XR @GExpr.bH (XR @GExpr.bV (XR @GCell.bf (XR @GCell.bH (XR @GCell.bV (XR @GNb.bf (XR @GNb.bH (XR @GNb.bV (XR @GPart.bf (XR @GPart.bH (XR @GPart.bV (XR @GEdit.bf (XR @GEdit.bH (XR @GEdit.bV (XR @GRead.bf (XR @GRead.bH (XR @GRead.bV (XR @GTape.bf (XR @GTape.bH (@GTape.bV))))))))))))))))))))))))))))))))
theorem kT (l : List D) : (D.sl l).isAgg = false := rfl
theorem gW (v : Value) : (D.leaf v).isAgg = false := rfl
theorem kW (n : Int) : (li n).isAgg = false := rfl
theorem kV (s : ByteArray) : (ls s).isAgg = false := rfl
theorem mM (l : List D) : (D.sl l).flat = [.sl l] := by rw [D.flat]
theorem iE (v : Value) : (D.leaf v).flat = [.leaf v] := by rw [D.flat]
theorem mV (n : Int) : (li n).flat = [.leaf (.int .i64 n)] := iE _
theorem mQ (s : ByteArray) : (ls s).flat = [.leaf (.string s)] := iE _
section
variable {P : Program} {f : Nat} {w : World}
theorem O8 {d : D} {vs : List Value} (h : Rds w [d] vs) : ∃ v, vs = [v] ∧ Rd w d v := by
  match vs, h with
  | [v], h => exact ⟨v, rfl, h.1⟩
theorem O7 {d e : D} {vs : List Value} (h : Rds w [d, e] vs) : ∃ v u, vs = [v, u] ∧ Rd w d v ∧ Rd w e u := by
  match vs, h with
  | [v, u], h => exact ⟨v, u, rfl, h.1, h.2.1⟩
theorem U1 {d e g : D} {vs : List Value} (h : Rds w [d, e, g] vs) : ∃ v u z, vs = [v, u, z] ∧ Rd w d v ∧ Rd w e u ∧ Rd w g z := by
  match vs, h with
  | [v, u, z], h => exact ⟨v, u, z, rfl, h.1, h.2.1, h.2.2.1⟩
theorem MZ {l : List D} {v : Value} (h : Rd w (.sl l) v) : ∃ fp, Sl w l fp v := by
  obtain ⟨fp, h⟩ := h
  exact ⟨fp, h⟩
theorem jU {u v : Value} (h : Rd w (.leaf u) v) : v = u := by
  obtain ⟨fp, h⟩ := h
  have h2 : fp = [] ∧ [v] = [u] := h
  simpa using h2.2
theorem QO {d : D} {v : Value} (hd : d.isAgg = true) (h : Rd w d v) : ∃ fp cs, v = .agg cs.toArray ∧ R w d fp cs := by
  unfold Rd at h
  rw [if_pos hd] at h
  exact h
theorem Ig {l : List D} {fp : List Nat} {v : Value} (h : Sl w l fp v) : Rd w (.sl l) v := ⟨fp, h⟩
theorem oP {ds : List D} {u : Value} (h : ∀ w vs, Rds w ds vs → Calls P f vs.toArray w (wL u w)) : aK P f ds (.c false [.raw u]) := fun w vs hr _ => (h w vs hr).mono fun e w' ⟨h1, h2⟩ => ⟨u, h1, ⟨rfl, trivial⟩, h2⟩
theorem FH {ds : List D} {u : Value} (h : ∀ w vs, Rds w ds vs → Calls P f vs.toArray w (xY u w)) : aK P f ds (.c false [.raw u]) := fun w vs hr _ => (h w vs hr).mono fun e w' ⟨h1, h2⟩ => by
  subst h2
  exact ⟨u, h1, ⟨rfl, trivial⟩, Below.refl _ _⟩
theorem FD {ds l : List D} (h : ∀ w vs, Rds w ds vs → Calls P f vs.toArray w (qQ l w)) : aK P f ds (.c false [.sl true l]) := fun w vs hr _ => (h w vs hr).mono fun e w' ⟨fp, v, h1, h2, h3, h4⟩ =>
  ⟨v, h1, ⟨⟨fp, h2, fun b hb => ⟨rE.2 (h3.2 b hb).1, fun _ => Or.inl (h3.2 b hb).1⟩⟩, trivial⟩, h4⟩
theorem Si {ds : List D} {u : Value} (h : aK P f ds (.c false [.raw u])) {w : World} {vs : List Value} (hr : Rds w ds vs) (ht : vG w := by first | exact trivial | assumption) : Calls P f vs.toArray w (wL u w) := (h w vs hr ht).mono fun e w' ⟨v, h1, h2, h3⟩ => by
  obtain rfl := h2.1
  exact ⟨h1, h3⟩
theorem of_own {ds l : List D} {e s : Nat} (h : Du P f ds l e s) (hf : eY l) {w : World} {vs : List Value} (hr : Rds w ds vs) (ht : vG w := by first | exact trivial | assumption) : Calls P f vs.toArray w (qQ l w) := (h w vs hr ht).mono fun en w' h1 => xZ.tos h1 hf
def Ql (l : List D) (u : Value) (w : World) (e : Ending) (w' : World) : Prop := ∃ fp v, e = .returned (.tuple #[.agg #[v], u]) ∧ Sl w' l fp v ∧ gG w' w.heap.size fp ∧ Below w.heap.size w w'
theorem U8 {ds l : List D} {e s : Nat} {u : Value} (h : sV P f ds (.tup [(true, [.own 0 0]), (false, [.raw u])]) [⟨l, e, s, 0, true⟩]) (hf : eY l) {w : World} {vs : List Value} (hr : Rds w ds vs) (ht : vG w := by first | exact trivial | assumption) : Calls P f vs.toArray w (Ql l u w) := (h w vs hr ht).mono fun en w' ⟨v, om, h1, h2, h3, h4⟩ => by
  obtain ⟨us, rfl, h5⟩ := h3
  match us, h5 with
  | [a, b], ⟨h6, h7, _⟩ =>
    obtain ⟨xs, rfl, h8⟩ := h6
    obtain rfl := h7.1
    match xs, h8 with
    | [x], ⟨⟨_, o, p, g1, g2, g3, g4⟩, _⟩ =>
      simp at g1
      subst g1
      obtain rfl := g4 rfl
      obtain ⟨_, o2, _⟩ := h2
      obtain ⟨cs, k1, k2, k3, k4⟩ := o2 0 _ p rfl g2
      have := hf _ _ _ k2
      rw [this] at k2
      exact ⟨_, p.1, h1, Sl.mP k1 k2, gG.mP k1 gG.nil (fun g hg => by simp), h4⟩
theorem sV.to {ds l : List D} {e s : Nat} {u : Value} (h : sV P f ds (.tup [(true, [.own 0 0]), (false, [.raw u])]) [⟨l, e, s, 0, true⟩]) (hf : eY l) : aK P f ds (.tup [(true, [.sl true l]), (false, [.raw u])]) := fun w vs hr ht => (U8 h hf hr ht).mono fun en w' ⟨fp, v, h1, h2, h3, h4⟩ =>
  ⟨_, h1, ⟨[.agg #[v], u], rfl, ⟨[v], rfl, ⟨fp, h2, fun b hb => ⟨rE.2 (h3.2 b hb).1, fun _ => Or.inl (h3.2 b hb).1⟩⟩, trivial⟩, ⟨rfl, trivial⟩, trivial⟩, h4⟩
end
section
variable {P : Program} {f : Nat} {w : World}
def Fh (w : World) (base : Nat) (fp : List Nat) : Prop := True ∧ ∀ b ∈ fp, base ≤ b ∧ True
theorem Fh.mono {w : World} {base base' : Nat} {fp : List Nat} (h : Fh w base fp) (hb : base' ≤ base) : Fh w base' fp := ⟨trivial, fun b hm => ⟨Nat.le_trans hb (h.2 b hm).1, trivial⟩⟩
theorem Fh.below {w w' : World} {base : Nat} {fp : List Nat} (h : Fh w base fp) (hl : ∀ b ∈ fp, b < w.heap.size) (hb : Below w.heap.size w w') : Fh w' base fp := ⟨trivial, h.2⟩
theorem of_flat {E : Env} {os : List Own} {w : World} : ∀ {l : List D} {n : Bool} {vs : List Value}, (∀ d ∈ l, d.isAgg = false) → Oks E os w (l.map (D.ac n)) vs → ∃ fp, Rs w l fp vs ∧ ∀ b ∈ fp, b ∉ E.M ∧ (n = true → E.nw b)
  | [], _, [], _, _ => ⟨[], ⟨rfl, rfl⟩, fun b hb => by simp at hb⟩
  | d :: l, n, v :: vs, ha, h => by
    obtain ⟨f2, r2, m2⟩ := of_flat (fun x hx => ha x (by simp [hx])) h.2
    have h1 := h.1
    cases d with
    | leaf u =>
      obtain rfl : v = u := h1
      exact ⟨f2, ⟨[], f2, [v], vs, rfl, rfl, ⟨rfl, rfl⟩, r2⟩, m2⟩
    | sl l' =>
      obtain ⟨fp, g1, g2⟩ := h1
      refine ⟨fp ++ f2, ⟨fp, f2, [v], vs, rfl, rfl, g1, r2⟩, fun b hb => ?_⟩
      rcases List.mem_append.1 hb with hb | hb
      · exact g2 b hb
      · exact m2 b hb
    | agg l' => have := ha (.agg l') (by simp); cases this
  | [], _, _ :: _, _, h => h.elim
  | _ :: _, _, [], _, h => h.elim
end
def stS (n : Nat) (avs : List AV) (os : List Own) (bs : List (List AC)) : St := ⟨avs ++ List.replicate (n - avs.length) (.c false [.raw undef]), os, bs⟩
theorem GR {E : Env} {os : List Own} {w : World} : ∀ {xs : List AV} {vs : List Value}, oG E os w xs vs → xs.length = vs.length ∧ ∀ (t : Nat) (x : AV), xs[t]? = some x → ∃ v, vs[t]? = some v ∧ x.ok E os w v
  | [], [], _ => ⟨rfl, fun t d h => by simp at h⟩
  | x :: xs, v :: vs, h => by
    obtain ⟨h1, h2⟩ := GR h.2
    refine ⟨by simp [h1], fun t y hy => ?_⟩
    cases t with
    | zero => simp at hy; subst hy; exact ⟨v, rfl, h.1⟩
    | succ t => simpa using h2 t y (by simpa using hy)
  | [], _ :: _, h => h.elim
  | _ :: _, [], h => h.elim
theorem Bf {B : Nat} {Xs : List Nat} {G : Org} {w0 : World} {fr : List AV} {os : List Own} {bs : List (List AC)} {E : Env} {a : Act} {w : World} {avs : List AV} {vs : List Value} (h : Rel B Xs G w0 ⟨fr, os, bs⟩ E a w) (hv : oG E os w avs vs) (n : Nat) :
    Rel B Xs ⟨E, os, w⟩ w0 (stS n avs os bs) E { tmps := vs.toArray ++ Array.replicate (n - vs.toArray.size) undef, defers := [] } w where
  eb := h.eb
  ex := h.ex
  sim := Sim.refl _ _ _
  defers := rfl
  size := by
    obtain ⟨hl, _⟩ := GR hv
    simp [stS, hl]
  fr := by
    obtain ⟨hl, hg⟩ := GR hv
    intro t x hx
    simp only [stS] at hx
    rw [List.getElem?_append] at hx
    simp only [Array.getD_eq_getD_getElem?]
    split at hx
    · next ht =>
      obtain ⟨v, hv, hr⟩ := hg t x hx
      rw [Array.getElem?_append_left (by simp at ht ⊢; omega)]
      simp only [List.getElem?_toArray, hv, Option.getD_some]
      exact hr
    · next ht =>
      rw [List.getElem?_replicate] at hx
      split at hx
      · next hlt =>
        injection hx with hx
        subst hx
        rw [Array.getElem?_append_right (by simp; omega), Array.getElem?_replicate]
        simp only [List.size_toArray, ← hl]
        rw [if_pos hlt]
        exact ⟨rfl, trivial⟩
      · cases hx
  olen := h.olen
  own := h.own
  blen := h.blen
  box := h.box
  nodup := h.nodup
  lin := h.lin
  unf := h.unf
  below := h.below
  base := h.base
theorem CG {n m : Nat} : ∀ (fr : List AV), je n m fr (List.replicate fr.length .any)
  | [] => trivial
  | x :: fr => ⟨Or.inl rfl, CG fr⟩
theorem JL {n m : Nat} {x : AV} (hx : x.fits n m = true) : ∀ (fr : List AV) (t : Nat), fr.getD t .any = x → je n m fr ((List.replicate fr.length AV.any).set t x)
  | [], t, _ => trivial
  | y :: fr, 0, h => ⟨Or.inr ⟨h, hx⟩, CG fr⟩
  | y :: fr, t + 1, h => ⟨Or.inl rfl, JL hx fr t (by simpa using h)⟩
def Xj (rs : List ResultVar) (r : AV) (os' : List Own) (bs' : List (List AC)) (st : St) : Prop :=
  gX st.owns os' ∧ gZ st.boxes bs' ∧ (bs'.all fun xs => xs.all (AC.fits os'.length bs'.length)) = true ∧
    (match rs with
     | [] => r = .c false [.raw (.tuple #[])]
     | [.tmp t] => st.fr.getD t .any = r ∧ r.fits os'.length bs'.length = true
     | _ => False)
theorem VL {P : Program} {f : Nat} {fn : Func} {code : Code} {ic : IC} {avs : List AV} {os : List Own} {bs : List (List AC)} {post : AV → List Own → List (List AC) → Prop} {rs : List ResultVar} (hf : P.funcs[f]? = some fn) (hb : fn.body = some code) (hr : fn.results = rs.toArray) (hc : aF P code = some ic)
    (h : eU (os.length, bs.length) P ic (kH (fun st => ∃ r os' bs', post r os' bs' ∧ os.length ≤ os'.length ∧ bs.length ≤ bs'.length ∧ Xj rs r os' bs' st)) (stS fn.ntmps avs os bs)) : kY P f avs os bs post := by
  intro B Xs G w0 fr E a w vs hR hv
  have hol := hR.olen
  have hbl := hR.blen
  simp only at hol hbl
  refine calls_of_wp hf hb ?_
  have := h code hc B Xs ⟨E, os, w⟩ w0 ⟨Nat.le_refl _, by simp only; omega⟩ E _ w (Bf hR hv fn.ntmps)
  refine wp_mono this ?_
  rintro e a' w' ⟨st', E', g1, g2⟩
  have fin : (∃ r os' bs', post r os' bs' ∧ os.length ≤ os'.length ∧ bs.length ≤ bs'.length ∧ Xj rs r os' bs' st') → ∃ v, (results fn a'.tmps).run P w' = .ok v w' ∧ ∃ v' E' r os' bs', post r os' bs' ∧ Ending.returned v = .returned v' ∧ Rel B Xs ⟨E, os, w⟩ w0 ⟨[], os', bs'⟩ E' { tmps := #[], defers := [] } w' ∧ r.ok E' os' w' v' := by
    rintro ⟨r, os', bs', hp, h1, h2, q1, q2, q3, q4⟩
    obtain ⟨r1, k1⟩ := vZ q1
    obtain ⟨r2, k2⟩ := wJ q2
    have drop : ∀ {fr' : List AV} {E'' : Env}, Rel B Xs ⟨E, os, w⟩ w0 ⟨fr', os', bs'⟩ E'' a' w' → Rel B Xs ⟨E, os, w⟩ w0 ⟨[], os', bs'⟩ E'' { tmps := #[], defers := [] } w' := fun hh =>
      { eb := hh.eb, ex := hh.ex, sim := hh.sim, defers := rfl, size := rfl, fr := fun t y hy => by simp at hy, olen := hh.olen, own := hh.own, blen := hh.blen, box := hh.box, nodup := hh.nodup, lin := hh.lin, unf := hh.unf, below := hh.below, base := hh.base }
    match rs, q4 with
    | [], q4 =>
      obtain ⟨E'', hh⟩ := g1.weak (st' := ⟨List.replicate st'.fr.length .any, os', bs'⟩) ⟨CG _, ⟨r1, k1⟩, ⟨r2, k2⟩, fun xs hx => List.all_eq_true.1 q3 xs hx⟩ (by simp only; omega) (by simp only; omega)
      subst q4
      exact ⟨_, results_none hr _ P w', _, E'', _, os', bs', hp, rfl, drop hh, rfl, trivial⟩
    | [.tmp t], q4 =>
      obtain ⟨E'', hh⟩ := g1.weak (st' := ⟨(List.replicate st'.fr.length .any).set t r, os', bs'⟩) ⟨JL q4.2 _ _ q4.1, ⟨r1, k1⟩, ⟨r2, k2⟩, fun xs hx => List.all_eq_true.1 q3 xs hx⟩ (by simp only; omega) (by simp only; omega)
      refine ⟨_, results_tmp hr _ P w', _, E'', r, os', bs', hp, rfl, drop hh, ?_⟩
      have hlen : t < st'.fr.length ∨ r = .any := by
        rcases Nat.lt_or_ge t st'.fr.length with hlt | hge
        · exact Or.inl hlt
        · refine Or.inr ?_
          rw [← q4.1, List.getD_eq_getElem?_getD, List.getElem?_eq_none hge]
          rfl
      rcases hlen with hlt | rfl
      · exact hh.fr t r (by simp only; rw [List.getElem?_set_self (by simpa using hlt)])
      · trivial
  cases e with
  | normal =>
    obtain ⟨v, h3, h4⟩ := fin g2
    exact ⟨g1.defers, v, h3, h4⟩
  | ret =>
    obtain ⟨v, h3, h4⟩ := fin g2
    exact ⟨g1.defers, v, h3, h4⟩
  | _ => exact g2.elim
section
variable {lo : Nat × Nat} {P : Program} {K : St → Prop} {Q : Exit → St → Prop} {st : St} {m : Bool}
theorem jI {c : Opd} {x y : IC} {b : Bool} (hb : st.ev c = .c false [.raw (.bool b)]) (h1 : b = true → eU lo P x Q st) (h2 : b = false → eU lo P y Q st) : eU lo P (.cond c x y) Q st := Dh hb h1 h2
theorem nV {os : List Own} {xs : List AV} {ds : List D} (h : bP os xs ds) : bP os xs ds := h
theorem mX {f : Nat} (h : CJ P f = true) : CJ P f = true := h
theorem ak {a b : Prop} (h1 : a) (h2 : b) : a ∧ b := ⟨h1, h2⟩
theorem aU {d : Option Nat} {f : Nat} {avs : List AV} {rest : List IOp} (h : jK P K d f avs rest st) : jK P K d f avs rest st := h
theorem bG {d : Option Nat} {f : Nat} {avs : List AV} {rest : List IOp} (h : pJ P m K d f avs rest st) : pJ P m K d f avs rest st := h
theorem aH {l : List IOp} (h : sw P K l st) : sw P K l st := h
theorem bJ {l : List IOp} (h : sd P m K l st) : sd P m K l st := h
theorem aB {d : Option Nat} {g : Nat} {w : Bool} {i : I} {rest : List IOp} (hg : gdA st (some (g, w)) = some true) (h : sw P K (⟨d, none, i⟩ :: rest) st) : sw P K (⟨d, some (g, w), i⟩ :: rest) st := by
  rw [wQ, hg]; exact h
theorem aC {d : Option Nat} {g : Nat} {w : Bool} {i : I} {rest : List IOp} (hg : gdA st (some (g, w)) = some false) (h : sw P K rest (st.put d (.c false [.raw undef]))) : sw P K (⟨d, some (g, w), i⟩ :: rest) st := by
  rw [wQ, hg]; exact h
theorem aO {d : Option Nat} {g : Nat} {w : Bool} {i : I} {rest : List IOp} (hg : gdA st (some (g, w)) = some true) (h : sd P m K (⟨d, none, i⟩ :: rest) st) : sd P m K (⟨d, some (g, w), i⟩ :: rest) st := by
  rw [Ia, hg]; exact h
theorem aP {d : Option Nat} {g : Nat} {w : Bool} {i : I} {rest : List IOp} (hg : gdA st (some (g, w)) = some false) (h : sd P m K rest (st.put d (.c false [.raw undef]))) : sd P m K (⟨d, some (g, w), i⟩ :: rest) st := by
  rw [Ia, hg]; exact h
theorem qK {g : Nat} {w b : Bool} (h : st.fr.getD g .any = .c false [.raw (.bool b)]) : gdA st (some (g, w)) = some (b == w) := by
  simp only [gdA, h]
theorem OV {d : Option Nat} {g : Nat} {w b : Bool} {i : I} {rest : List IOp} (hg : st.fr.getD g .any = .c false [.raw (.bool b)]) (h1 : b = w → sw P K (⟨d, none, i⟩ :: rest) st) (h2 : b = !w → sw P K rest (st.put d (.c false [.raw undef]))) :
    sw P K (⟨d, some (g, w), i⟩ :: rest) st := by
  cases b <;> cases w
  · exact aB (qK hg) (h1 rfl)
  · exact aC (qK hg) (h2 rfl)
  · exact aC (qK hg) (h2 rfl)
  · exact aB (qK hg) (h1 rfl)
theorem O1 {d : Option Nat} {g : Nat} {w b : Bool} {i : I} {rest : List IOp} (hg : st.fr.getD g .any = .c false [.raw (.bool b)]) (h1 : b = w → sd P m K (⟨d, none, i⟩ :: rest) st) (h2 : b = !w → sd P m K rest (st.put d (.c false [.raw undef]))) :
    sd P m K (⟨d, some (g, w), i⟩ :: rest) st := by
  cases b <;> cases w
  · exact aO (qK hg) (h1 rfl)
  · exact aP (qK hg) (h2 rfl)
  · exact aP (qK hg) (h2 rfl)
  · exact aO (qK hg) (h1 rfl)
end
theorem nP {lo : Nat × Nat} {P : Program} {Q : Exit → St → Prop} {X : Type} {c : IC} {fr0 : List AV} {os0 : List Own} {bs0 : List (List AC)} (sp : X → List Sp) (ow : X → List Own) (bx : X → List (List AC) → List (List AC)) (inv : X → Prop) (μ : X → Nat) (x0 : X) (h0 : inv x0)
    (hlo : ∀ x, lo.1 ≤ (ow x).length ∧ lo.2 ≤ (bx x bs0).length) (hle : gu ⟨fr0, os0, bs0⟩ (FB fr0 bs0 sp ow bx x0)) (round : ∀ x, inv x → eU lo P c (wO (FB fr0 bs0 sp ow bx) inv μ x Q) (FB fr0 bs0 sp ow bx x)) : eU lo P (.loop c) Q ⟨fr0, os0, bs0⟩ :=
  EZ (FB fr0 bs0 sp ow bx) inv μ x0 h0 hlo (wR hle) round
theorem jq {z : Int} (h1 : -9223372036854775808 ≤ z) (h2 : z ≤ 9223372036854775807) : IntKind.i64.wrap z = z := IntWalk.i64_in _ ⟨h1, h2⟩
theorem Wj {α : Type} {a b : Nat} {x y : α} (h : a < b) : (if a < b then x else y) = x := if_pos h
theorem Wn {α : Type} {a b : Nat} {x y : α} (h : a ≤ b) : (if a ≤ b then x else y) = x := if_pos h
theorem Wu {p : Prop} [Decidable p] (h : p) : decide p = true := decide_eq_true h
theorem Wv {p : Prop} [Decidable p] (h : ¬ p) : decide p = false := decide_eq_false h
theorem WA {a b : Int} (h : a = b) : (a == b) = true := by simp [h]
theorem Ur {a b : Int} (h : a ≠ b) : (a == b) = false := by simp [h]
theorem Wx {a b : Int} (h : a ≠ b) : (a != b) = true := by simp [h]
theorem Wy {a b : Int} (h : a = b) : (a != b) = false := by simp [h]
theorem SE {l : List D} {k : Nat} (h : k < l.length) : idx l (some (k : Int)) = some l[k] := by
  rw [xq, List.getElem?_eq_getElem h]
theorem IY {α : Type} (f : α → D) (l : List α) {z : Int} (h0 : 0 ≤ z) (h : z.toNat < l.length) : idx (l.map f) (some z) = some (f l[z.toNat]) := by
  simp only [idx]
  rw [if_pos h0, List.getElem?_map, List.getElem?_eq_getElem h]
  rfl
theorem MP {k n : Nat} (h : k ≤ n) : lI none (some (k : Int)) n = some (0, k) := by
  simp [lI, h]
theorem yx {k n : Nat} (h : k ≤ n) : lI (some (k : Int)) none n = some (k, n) := by
  simp [lI, h]
theorem Ee {j k n : Nat} (h : j ≤ k) (h' : k ≤ n) : lI (some (j : Int)) (some (k : Int)) n = some (j, k) := by
  simp only [lI, Option.getD_some]
  rw [if_pos (by omega)]
  simp
theorem Hy {n : Nat} (h : 1 ≤ n) : lI (some (1 : Int)) none n = some (1, n) := by
  have := yx h
  simpa using this
theorem Hz {n : Nat} : lI none none n = some (0, n) := by
  simp [lI]
section
variable {α : Type}
end
theorem rZ : ∀ (os : List Own), gX os os
  | [] => trivial
  | o :: os => ⟨⟨rfl, rfl, rfl, rfl, rfl⟩, rZ os⟩
theorem sO : ∀ (bs : List (List AC)), gZ bs bs
  | [] => trivial
  | b :: bs => ⟨rfl, sO bs⟩
theorem KO {n m n' m' : Nat} (h : n ≤ n') (h' : m ≤ m') {x : AC} (hx : x.fits n m = true) : x.fits n' m' = true := by
  cases x with
  | own k i => simp [AC.fits] at hx ⊢; omega
  | osub k i a b => simp [AC.fits] at hx ⊢; omega
  | cl f caps =>
    simp only [AC.fits, List.all_eq_true, decide_eq_true_eq] at hx ⊢
    exact fun k hk => Nat.lt_of_lt_of_le (hx k hk) h'
  | _ => rfl
def OM (n m : Nat) (bx : List (List AC)) : Prop := (bx.all fun xs => xs.all (AC.fits n m)) = true
theorem OM.mono {n m n' m' : Nat} {bx : List (List AC)} (h : OM n m bx) (h1 : n ≤ n') (h2 : m ≤ m') : OM n' m' bx := by
  simp only [OM, List.all_eq_true] at h ⊢
  exact fun xs hx x hxx => KO h1 h2 (h xs hx x hxx)
theorem pkA : type_of% (XR @List.map_cons.{0,0} (XR @List.map_nil.{0,0} (XR @List.cons_append.{0} (XR @List.nil_append.{0} (XR @List.length_cons.{0} (XR @List.length_nil.{0} (XR @List.length_map.{0,0} (XR @List.getD_cons_zero.{0} (XR @List.getD_cons_succ.{0} (XR @List.getElem?_cons_zero.{0} (XR @List.getElem?_cons_succ.{0} (XR @List.set_cons_zero.{0} (XR @List.set_cons_succ.{0} (XR @List.take_succ_cons.{0} (XR @List.take_zero.{0} (XR @List.drop_succ_cons.{0} (XR @List.drop_zero.{0} (XR @List.take_nil.{0} (XR @List.drop_nil.{0} (XR @Nat.zero_add (XR @Nat.add_zero (XR @List.all_nil.{0} (XR @List.all_cons.{0} (XR @Bool.and_true (XR @Bool.true_and (XR @Bool.and_self (XR @Bool.not_true (XR @Bool.not_false (XR @beq_self_eq_true.{0} (XR @if_true.{1} (XR @if_false.{1} (XR @ite_true.{1} (XR @ite_false.{1} (XR @Bool.false_eq_true (XR @true_and (XR @and_true (XR @decide_true (XR @decide_false (XR @Option.getD_some.{0} (XR @Option.getD_none.{0} (XR @Nat.le_refl (XR @Nat.zero_le (XR @Int.toNat_natCast (XR @Int.natCast_nonneg (XR @BEq.rfl.{0} (XR @Option.map_some.{0,0} (XR @Option.map_none.{0,0} (XR @Uk (XR @Uj (XR @fV (XR @fU (XR @pW (XR @lJ (XR @jW (XR @jr (XR @Tz (@Og))))))))))))))))))))))))))))))))))))))))))))))))))))))))) := XR @List.map_cons.{0,0} (XR @List.map_nil.{0,0} (XR @List.cons_append.{0} (XR @List.nil_append.{0} (XR @List.length_cons.{0} (XR @List.length_nil.{0} (XR @List.length_map.{0,0} (XR @List.getD_cons_zero.{0} (XR @List.getD_cons_succ.{0} (XR @List.getElem?_cons_zero.{0} (XR @List.getElem?_cons_succ.{0} (XR @List.set_cons_zero.{0} (XR @List.set_cons_succ.{0} (XR @List.take_succ_cons.{0} (XR @List.take_zero.{0} (XR @List.drop_succ_cons.{0} (XR @List.drop_zero.{0} (XR @List.take_nil.{0} (XR @List.drop_nil.{0} (XR @Nat.zero_add (XR @Nat.add_zero (XR @List.all_nil.{0} (XR @List.all_cons.{0} (XR @Bool.and_true (XR @Bool.true_and (XR @Bool.and_self (XR @Bool.not_true (XR @Bool.not_false (XR @beq_self_eq_true.{0} (XR @if_true.{1} (XR @if_false.{1} (XR @ite_true.{1} (XR @ite_false.{1} (XR @Bool.false_eq_true (XR @true_and (XR @and_true (XR @decide_true (XR @decide_false (XR @Option.getD_some.{0} (XR @Option.getD_none.{0} (XR @Nat.le_refl (XR @Nat.zero_le (XR @Int.toNat_natCast (XR @Int.natCast_nonneg (XR @BEq.rfl.{0} (XR @Option.map_some.{0,0} (XR @Option.map_none.{0,0} (XR @Uk (XR @Uj (XR @fV (XR @fU (XR @pW (XR @lJ (XR @jW (XR @jr (XR @Tz (@Og))))))))))))))))))))))))))))))))))))))))))))))))))))))))
theorem pkN : type_of% (XR @Wj (XR @Wn (XR @Wu (XR @Wv (XR @WA (XR @Ur (XR @Wx (XR @Wy (XR @fE (XR @jq (XR @SE (XR @dR (XR @IY (XR @MP (XR @yx (XR @Ee (XR @Hy (@Hz)))))))))))))))))) := XR @Wj (XR @Wn (XR @Wu (XR @Wv (XR @WA (XR @Ur (XR @Wx (XR @Wy (XR @fE (XR @jq (XR @SE (XR @dR (XR @IY (XR @MP (XR @yx (XR @Ee (XR @Hy (@Hz)))))))))))))))))
theorem pkC : type_of% (XR @decide_eq_true_eq (XR @decide_eq_false_iff_not (XR @beq_iff_eq.{0} (XR @bne_iff_ne.{0} (XR @ne_eq.{1} (XR @beq_eq_false_iff_ne.{0} (XR @bne_eq_false_iff_eq.{0} (XR @Bool.not_eq_true' (XR @Bool.not_eq_false' (XR @Bool.not_eq_eq_eq_not (XR @Bool.not_true (@Bool.not_false)))))))))))) := XR @decide_eq_true_eq (XR @decide_eq_false_iff_not (XR @beq_iff_eq.{0} (XR @bne_iff_ne.{0} (XR @ne_eq.{1} (XR @beq_eq_false_iff_ne.{0} (XR @bne_eq_false_iff_eq.{0} (XR @Bool.not_eq_true' (XR @Bool.not_eq_false' (XR @Bool.not_eq_eq_eq_not (XR @Bool.not_true (@Bool.not_false)))))))))))
theorem pkW : type_of% (XR @QW (XR @Nc (XR @Ri (XR @Rj (XR @QU (XR @Nh (XR @Q5 (XR @QV (XR @Ih (XR @Rf (XR @Rh (XR @QZ (XR @Nb (XR @QT (XR @Q7 (XR @QY (XR @QX (XR @Nj (XR @Na (XR @V9 (XR @Q9 (XR @Q8 (XR @Nl (@Nk)))))))))))))))))))))))) := XR @QW (XR @Nc (XR @Ri (XR @Rj (XR @QU (XR @Nh (XR @Q5 (XR @QV (XR @Ih (XR @Rf (XR @Rh (XR @QZ (XR @Nb (XR @QT (XR @Q7 (XR @QY (XR @QX (XR @Nj (XR @Na (XR @V9 (XR @Q9 (XR @Q8 (XR @Nl (@Nk)))))))))))))))))))))))
theorem pkS : type_of% (XR @Qw (XR @Qy (XR @Qx (XR @MN (XR @Hw (XR @Qz (XR @Hu (XR @MO (@V5))))))))) := XR @Qw (XR @Qy (XR @Qx (XR @MN (XR @Hw (XR @Qz (XR @Hu (XR @MO (@V5))))))))
theorem pkD : type_of% (XR @Ru (XR @Ns (XR @RJ (XR @RN (XR @Rq (XR @Nu (XR @Rz (XR @Rt (XR @Ik (XR @RH (XR @Ij (XR @Ny (XR @RI (XR @Ry (XR @Nr (XR @Ro (XR @RD (XR @Rx (XR @Rw (XR @Nv (XR @Nq (XR @Wh (XR @RG (XR @RF (XR @ND (XR @Nz (XR @TG (XR @Oj (XR @TS (XR @TT (XR @TD (XR @Ol (XR @TL (XR @TF (XR @J4 (XR @TQ (XR @J3 (XR @Oo (XR @TR (XR @TK (XR @Oi (XR @TB (XR @TM (XR @TJ (XR @TI (XR @Om (XR @Oh (XR @Ws (XR @TP (XR @TN (XR @Ou (XR @Ot (XR @Oq (XR @yI (@yJ))))))))))))))))))))))))))))))))))))))))))))))))))))))) := XR @Ru (XR @Ns (XR @RJ (XR @RN (XR @Rq (XR @Nu (XR @Rz (XR @Rt (XR @Ik (XR @RH (XR @Ij (XR @Ny (XR @RI (XR @Ry (XR @Nr (XR @Ro (XR @RD (XR @Rx (XR @Rw (XR @Nv (XR @Nq (XR @Wh (XR @RG (XR @RF (XR @ND (XR @Nz (XR @TG (XR @Oj (XR @TS (XR @TT (XR @TD (XR @Ol (XR @TL (XR @TF (XR @J4 (XR @TQ (XR @J3 (XR @Oo (XR @TR (XR @TK (XR @Oi (XR @TB (XR @TM (XR @TJ (XR @TI (XR @Om (XR @Oh (XR @Ws (XR @TP (XR @TN (XR @Ou (XR @Ot (XR @Oq (XR @yI (@yJ))))))))))))))))))))))))))))))))))))))))))))))))))))))
theorem pkR : type_of% (XR @QE (XR @QG (XR @QF (XR @FU (XR @Ib (XR @QK (XR @QI (@QJ)))))))) := XR @QE (XR @QG (XR @QF (XR @FU (XR @Ib (XR @QK (XR @QI (@QJ)))))))
def AC.ren (pk : List Nat) : AC → AC
  | .own k i => .own (pk.getD k 0) i
  | .osub k i a b => .osub (pk.getD k 0) i a b
  | x => x
def AV.ren (pk : List Nat) : AV → AV
  | .c g xs => .c g (xs.map (AC.ren pk))
  | .ptr xs => .ptr (xs.map (AC.ren pk))
  | .eptr k i j off => .eptr (pk.getD k 0) i j off
  | .tup ys => .tup (ys.map fun y => (y.1, y.2.map (AC.ren pk)))
  | x => x
def Fj (pk : List Nat) (n m : Nat) : List AV → List AV → Prop
  | [], [] => True
  | x :: xs, y :: ys => (y = .any ∨ (x = y.ren pk ∧ y.fits n m = true)) ∧ Fj pk n m xs ys
  | _, _ => False
def G6 (os : List Own) : List Nat → List Own → Prop
  | [], [] => True
  | k :: pk, o' :: os' => (match os[k]? with | some o => o.l = o'.l ∧ o.e = o'.e ∧ o.s = o'.s ∧ o.ver = o'.ver ∧ o.nw = o'.nw | none => False) ∧ G6 os pk os'
  | _, _ => False
def zi (pk : List Nat) : List (List AC) → List (List AC) → Prop
  | _, [] => True
  | x :: xs, y :: ys => x = y.map (AC.ren pk) ∧ zi pk xs ys
  | [], _ :: _ => False
def Fe (pk : List Nat) (st st' : St) : Prop := pk.Nodup ∧ Fj pk st'.owns.length st'.boxes.length st.fr st'.fr ∧ G6 st.owns pk st'.owns ∧ zi pk st.boxes st'.boxes ∧ (st'.boxes.all fun xs => xs.all (AC.fits st'.owns.length st'.boxes.length)) = true
theorem Bq {os : List Own} : ∀ {pk : List Nat} {os' : List Own}, G6 os pk os' → pk.length = os'.length ∧ ∀ (j : Nat) (o' : Own), os'[j]? = some o' → ∃ k, pk[j]? = some k ∧ os[k]? = some o'
  | [], [], _ => ⟨rfl, fun j o' h => by simp at h⟩
  | k :: pk, o' :: os', h => by
    obtain ⟨h1, h2⟩ := Bq h.2
    refine ⟨by simp [h1], fun j o'' g => ?_⟩
    cases j with
    | zero =>
      simp at g
      subst g
      have h3 := h.1
      split at h3
      · next o ho =>
        refine ⟨k, rfl, ?_⟩
        rw [ho]
        congr 1
        cases o; cases o'; simp_all
      · exact h3.elim
    | succ j => simpa using h2 j o'' (by simpa using g)
  | [], _ :: _, h => h.elim
  | _ :: _, [], h => h.elim
theorem Dc {pk : List Nat} : ∀ {xs ys : List (List AC)}, zi pk xs ys → ys.length ≤ xs.length ∧ ∀ (j : Nat) (y : List AC), ys[j]? = some y → xs[j]? = some (y.map (AC.ren pk))
  | xs, [], _ => ⟨Nat.zero_le _, fun j y h => by simp at h⟩
  | x :: xs, y :: ys, h => by
    obtain ⟨h1, h2⟩ := Dc h.2
    refine ⟨by simp; exact h1, fun j z g => ?_⟩
    cases j with
    | zero => simp at g; subst g; simp [h.1]
    | succ j => simpa using h2 j z (by simpa using g)
  | [], _ :: _, h => h.elim
theorem EH {pk : List Nat} {n m : Nat} : ∀ {xs ys : List AV}, Fj pk n m xs ys → xs.length = ys.length ∧ ∀ (t : Nat) (y : AV), ys[t]? = some y → y = .any ∨ (xs[t]? = some (y.ren pk) ∧ y.fits n m = true)
  | [], [], _ => ⟨rfl, fun t y h => by simp at h⟩
  | x :: xs, y :: ys, h => by
    obtain ⟨h1, h2⟩ := EH h.2
    refine ⟨by simp [h1], fun t z hz => ?_⟩
    cases t with
    | zero =>
      simp at hz
      subst hz
      rcases h.1 with h' | ⟨h', h''⟩
      · exact Or.inl h'
      · exact Or.inr ⟨by simp [h'], h''⟩
    | succ t => simpa using h2 t z (by simpa using hz)
  | [], _ :: _, h => h.elim
  | _ :: _, [], h => h.elim
def Env.pick (E : Env) (pk : List Nat) (m : Nat) : Env := { E with om := pk.map fun k => E.om.getD k (undef, []), bm := E.bm.take m }
theorem JW : ∀ (L : List (Value × List Nat)) (i j : Nat) (p q : Value × List Nat) (b : Nat), (L.flatMap (fun p => p.1.ownBlock.toList)).Nodup → L[i]? = some p → L[j]? = some q → p.1.ownBlock = some b → q.1.ownBlock = some b → i = j := by
  intro L
  induction L with
  | nil => intro i j p q b _ hi; simp at hi
  | cons z L ih =>
    intro i j p q b hn hi hj hpb hqb
    rw [List.flatMap_cons, List.nodup_append] at hn
    cases i with
    | zero =>
      cases j with
      | zero => rfl
      | succ j =>
        simp at hi hj
        subst hi
        exact absurd rfl (hn.2.2 b (by simp [hpb]) b (List.mem_flatMap.2 ⟨q, List.mem_of_getElem? hj, by simp [hqb]⟩))
    | succ i =>
      cases j with
      | zero =>
        simp at hi hj
        subst hj
        exact absurd rfl (hn.2.2 b (by simp [hqb]) b (List.mem_flatMap.2 ⟨p, List.mem_of_getElem? hi, by simp [hpb]⟩))
      | succ j =>
        simp at hi hj
        rw [ih i j p q b hn.2.1 hi hj hpb hqb]
theorem Bl {L : List (Value × List Nat)} {pk : List Nat} (hlt : ∀ k ∈ pk, k < L.length) {b : Nat} (hb : b ∈ (pk.map fun k => L.getD k (undef, [])).flatMap fun p => p.1.ownBlock.toList) : ∃ k ∈ pk, ∃ p, L[k]? = some p ∧ p.1.ownBlock = some b := by
  obtain ⟨q, hq, hqb⟩ := List.mem_flatMap.1 hb
  obtain ⟨k, hk, rfl⟩ := List.mem_map.1 hq
  have hkl := hlt k hk
  rw [List.getD_eq_getElem?_getD, List.getElem?_eq_getElem hkl] at hqb
  exact ⟨k, hk, L[k], List.getElem?_eq_getElem hkl, by simpa using hqb⟩
theorem vY {L : List (Value × List Nat)} (hL : (L.flatMap (fun p => p.1.ownBlock.toList)).Nodup) : ∀ {pk : List Nat}, pk.Nodup → (∀ k ∈ pk, k < L.length) → ((pk.map fun k => L.getD k (undef, [])).flatMap fun p => p.1.ownBlock.toList).Nodup
  | [], _, _ => List.nodup_nil
  | k :: pk, hn, hlt => by
    rw [List.nodup_cons] at hn
    rw [List.map_cons, List.flatMap_cons, List.nodup_append]
    refine ⟨by cases (L.getD k (undef, [])).1.ownBlock <;> simp, vY hL hn.2 (fun j hj => hlt j (by simp [hj])), fun x hx y hy e => ?_⟩
    subst e
    obtain ⟨j, hj, p, g1, g2⟩ := Bl (fun j hj => hlt j (by simp [hj])) hy
    have hkl := hlt k (by simp)
    rw [List.getD_eq_getElem?_getD, List.getElem?_eq_getElem hkl] at hx
    have := JW L k j L[k] p x hL (List.getElem?_eq_getElem hkl) g1 (by simpa using hx) g2
    subst this
    exact hn.1 hj
section
variable {B : Nat} {Xs : List Nat} {G : Org} {w0 : World} {st st' : St} {E : Env} {a : Act} {w : World} {pk : List Nat} {m : Nat} {os os' : List Own}
theorem FZ (hlt : ∀ k ∈ pk, k < E.om.length) {b : Nat} (h : b ∈ (E.pick pk m).M) : b ∈ E.M := by
  unfold Env.M at h ⊢
  rcases List.mem_append.1 h with h | h
  · refine List.mem_append_left _ ?_
    exact ((List.take_sublist m E.bm).map _).subset h
  · refine List.mem_append_right _ ?_
    obtain ⟨k, hk, p, g1, g2⟩ := Bl hlt h
    exact List.mem_flatMap.2 ⟨p, List.mem_of_getElem? g1, by simp [g2]⟩
theorem uT {j k : Nat} (hk : pk[j]? = some k) {p : Value × List Nat} (hp : E.om[k]? = some p) : (E.pick pk m).om[j]? = some p := by
  simp only [Env.pick, List.getElem?_map, hk, Option.map_some, List.getD_eq_getElem?_getD, hp, Option.getD_some]
theorem AC.ok.pick (hlt : ∀ k ∈ pk, k < E.om.length) (hl : pk.length = os'.length) (ho : ∀ (j : Nat) (o' : Own), os'[j]? = some o' → ∃ k, pk[j]? = some k ∧ os[k]? = some o') {x : AC} {v : Value} (h : (x.ren pk).ok E os w v) (hf : x.fits os'.length m = true) : x.ok (E.pick pk m) os' w v := by
  cases x with
  | any => trivial
  | raw u => exact h
  | cl f caps =>
    obtain ⟨ps, h1, h2⟩ := h
    refine ⟨ps, ?_, h2⟩
    rw [← h1]
    refine List.map_congr_left fun k hk => ?_
    have : k < m := by simpa using List.all_eq_true.1 hf k hk
    simp only [Env.pick]
    rw [List.getElem?_take, if_pos this]
  | sl b l =>
    obtain ⟨fp, h1, h2⟩ := h
    exact ⟨fp, h1, fun b hb => ⟨fun hm => (h2 b hb).1 (FZ hlt hm), (h2 b hb).2⟩⟩
  | own k i =>
    obtain ⟨hv, o, p, h1, h2, h3, h4⟩ := h
    have hk : k < os'.length := by simpa [AC.fits] using hf
    obtain ⟨k0, g1, g2⟩ := ho k _ (List.getElem?_eq_getElem hk)
    have e : pk.getD k 0 = k0 := by rw [List.getD_eq_getElem?_getD, g1]; rfl
    rw [e] at h1 h2
    rw [h1] at g2
    injection g2 with g2
    exact ⟨hv, o, p, by rw [List.getElem?_eq_getElem hk, ← g2], uT g1 h2, h3, h4⟩
  | osub k i pa pb =>
    obtain ⟨hv, o, p, h1, h2, h3, h4⟩ := h
    have hk : k < os'.length := by simpa [AC.fits] using hf
    obtain ⟨k0, g1, g2⟩ := ho k _ (List.getElem?_eq_getElem hk)
    have e : pk.getD k 0 = k0 := by rw [List.getD_eq_getElem?_getD, g1]; rfl
    rw [e] at h1 h2
    rw [h1] at g2
    injection g2 with g2
    exact ⟨hv, o, p, by rw [List.getElem?_eq_getElem hk, ← g2], uT g1 h2, h3, h4⟩
theorem Oks.pick (hlt : ∀ k ∈ pk, k < E.om.length) (hl : pk.length = os'.length) (ho : ∀ (j : Nat) (o' : Own), os'[j]? = some o' → ∃ k, pk[j]? = some k ∧ os[k]? = some o') : ∀ {xs : List AC} {vs : List Value}, Oks E os w (xs.map (AC.ren pk)) vs → xs.all (AC.fits os'.length m) = true → Oks (E.pick pk m) os' w xs vs
  | [], [], _, _ => trivial
  | x :: xs, v :: vs, h, hf => by
    simp only [List.all_cons, Bool.and_eq_true] at hf
    exact ⟨AC.ok.pick hlt hl ho h.1 hf.1, Oks.pick hlt hl ho h.2 hf.2⟩
  | [], _ :: _, h, _ => h.elim
  | _ :: _, [], h, _ => h.elim
theorem Gok.pick (hlt : ∀ k ∈ pk, k < E.om.length) (hl : pk.length = os'.length) (ho : ∀ (j : Nat) (o' : Own), os'[j]? = some o' → ∃ k, pk[j]? = some k ∧ os[k]? = some o') {g : Bool} {xs : List AC} {v : Value} (h : Gok E os w g (xs.map (AC.ren pk)) v) (hf : xs.all (AC.fits os'.length m) = true) : Gok (E.pick pk m) os' w g xs v := by
  cases g with
  | true => obtain ⟨vs, h1, h2⟩ := h; exact ⟨vs, h1, h2.pick hlt hl ho hf⟩
  | false => exact Oks.pick hlt hl ho (show Oks _ _ _ _ [v] from h) hf
theorem qU.pick (hlt : ∀ k ∈ pk, k < E.om.length) (hl : pk.length = os'.length) (ho : ∀ (j : Nat) (o' : Own), os'[j]? = some o' → ∃ k, pk[j]? = some k ∧ os[k]? = some o') : ∀ {ys : List (Bool × List AC)} {vs : List Value}, qU E os w (ys.map fun y => (y.1, y.2.map (AC.ren pk))) vs → (ys.all fun y => y.2.all (AC.fits os'.length m)) = true → qU (E.pick pk m) os' w ys vs
  | [], [], _, _ => trivial
  | y :: ys, v :: vs, h, hf => by
    simp only [List.all_cons, Bool.and_eq_true] at hf
    exact ⟨Gok.pick hlt hl ho h.1 hf.1, qU.pick hlt hl ho h.2 hf.2⟩
  | [], _ :: _, h, _ => h.elim
  | _ :: _, [], h, _ => h.elim
theorem AV.ok.pick (hlt : ∀ k ∈ pk, k < E.om.length) (hl : pk.length = os'.length) (ho : ∀ (j : Nat) (o' : Own), os'[j]? = some o' → ∃ k, pk[j]? = some k ∧ os[k]? = some o') {x : AV} {v : Value} (h : (x.ren pk).ok E os w v) (hf : x.fits os'.length m = true) : x.ok (E.pick pk m) os' w v := by
  cases x with
  | any => trivial
  | c g xs => exact Gok.pick hlt hl ho h hf
  | ptr xs =>
    obtain ⟨b, o, vs, h1, h2, h3, h4, h5⟩ := h
    exact ⟨b, o, vs, h1, h2, fun hm => h3 (FZ hlt hm), h4, h5.pick hlt hl ho hf⟩
  | bptr k off =>
    obtain ⟨p, h1, h2⟩ := h
    refine ⟨p, ?_, h2⟩
    simp only [Env.pick]
    rw [List.getElem?_take, if_pos (by simpa [AV.fits] using hf)]
    exact h1
  | eptr k i j off =>
    obtain ⟨o, p, h1, h2, h3, h4⟩ := h
    have hk : k < os'.length := by simpa [AV.fits] using hf
    obtain ⟨k0, g1, g2⟩ := ho k _ (List.getElem?_eq_getElem hk)
    have e : pk.getD k 0 = k0 := by rw [List.getD_eq_getElem?_getD, g1]; rfl
    rw [e] at h1 h2
    rw [h1] at g2
    injection g2 with g2
    exact ⟨o, p, by rw [List.getElem?_eq_getElem hk, ← g2], uT g1 h2, h3, h4⟩
  | tup ys =>
    obtain ⟨vs, h1, h2⟩ := h
    exact ⟨vs, h1, h2.pick hlt hl ho hf⟩
theorem Rel.V4 (h : Rel B Xs G w0 st E a w) (hle : Fe pk st st') (hG1 : G.os.length = 0) (hG2 : G.E.bm.length ≤ st'.boxes.length) : ∃ E', Rel B Xs G w0 st' E' a w := by
  obtain ⟨hnd, h1, h2, h3, h4⟩ := hle
  obtain ⟨hl, hf⟩ := EH h1
  obtain ⟨hpl, ho⟩ := Bq h2
  obtain ⟨hbl, hb⟩ := Dc h3
  have hol := h.olen
  have hbl' := h.blen
  have hlt : ∀ k ∈ pk, k < E.om.length := fun k hk => by
    obtain ⟨j, hj⟩ := List.mem_iff_getElem?.1 hk
    have hjl : j < st'.owns.length := by rw [← hpl]; exact (List.getElem?_eq_some_iff.1 hj).1
    obtain ⟨k', g1, g2⟩ := ho j _ (List.getElem?_eq_getElem hjl)
    rw [hj] at g1
    injection g1 with g1
    subst g1
    rw [hol]
    exact (List.getElem?_eq_some_iff.1 g2).1
  have hnil : G.os = [] := List.eq_nil_of_length_eq_zero hG1
  refine ⟨E.pick pk st'.boxes.length, ?_⟩
  exact
    { eb := h.eb
      ex := h.ex
      sim := { base := h.sim.base, size := h.sim.size, blk := h.sim.blk, old := fun b hb hm => h.sim.old b hb (FZ hlt hm),
               own := fun k o p g1 g2 => by rw [hnil] at g1; simp at g1
               box := fun k p g => by
                 have hk : k < st'.boxes.length := Nat.lt_of_lt_of_le (List.getElem?_eq_some_iff.1 g).1 hG2
                 simp only [Env.pick]
                 rw [List.getElem?_take, if_pos hk]; exact h.sim.box k p g }
      defers := h.defers
      size := by rw [h.size]; exact hl
      fr := fun t y hy => by
        rcases hf t y hy with rfl | ⟨h5, h6⟩
        · trivial
        · exact AV.ok.pick hlt hpl ho (h.fr t _ h5) h6
      olen := by simp only [Env.pick, List.length_map]; exact hpl
      own := fun k o p g1 g2 => by
        obtain ⟨k0, q1, q2⟩ := ho k o g1
        have hk0 : k0 < E.om.length := hlt k0 (List.mem_of_getElem? q1)
        have hp : E.om[k0]? = some p := by
          have := uT (m := st'.boxes.length) q1 (List.getElem?_eq_getElem hk0)
          rw [this] at g2
          rw [List.getElem?_eq_getElem hk0]
          exact g2
        obtain ⟨cs, h5, h6, h7, h8⟩ := h.own k0 o p q2 hp
        exact ⟨cs, h5, h6, h7, fun b hb => ⟨fun hm => (h8 b hb).1 (FZ hlt hm), (h8 b hb).2⟩⟩
      blen := by simp only [Env.pick, List.length_take]; omega
      box := fun k xs p g1 g2 => by
        have hk : k < st'.boxes.length := (List.getElem?_eq_some_iff.1 g1).1
        simp only [Env.pick] at g2
        rw [List.getElem?_take, if_pos hk] at g2
        obtain ⟨h5, vs, h6, h7⟩ := h.box k _ p (hb k xs g1) g2
        exact ⟨h5, vs, h6, h7.pick hlt hpl ho (List.all_eq_true.1 h4 xs (List.mem_of_getElem? g1))⟩
      nodup := by
        have := h.nodup
        unfold Env.M at this ⊢
        rw [List.nodup_append] at this ⊢
        refine ⟨this.1.sublist (by simp only [Env.pick]; exact (List.take_sublist _ _).map _), vY this.2.1 hnd hlt, fun x hx y hy => ?_⟩
        refine this.2.2 x ?_ y ?_
        · exact ((List.take_sublist st'.boxes.length E.bm).map _).subset hx
        · obtain ⟨k, hk, p, g1, g2⟩ := Bl hlt hy
          exact List.mem_flatMap.2 ⟨p, List.mem_of_getElem? g1, by simp [g2]⟩
      lin := by
        have hpl' : pk.length = st'.owns.length := hpl
        refine h.lin.map (fun j => pk.getD j 0) (fun i j hij hi hj e => hij ?_) fun j o p g1 g2 g3 => ?_
        · have hi' : i < pk.length := by omega
          have hj' : j < pk.length := by omega
          simp only [List.getD_eq_getElem?_getD, List.getElem?_eq_getElem hi', List.getElem?_eq_getElem hj', Option.getD_some] at e
          exact (List.getElem_inj hnd).1 e
        · obtain ⟨k0, q1, q2⟩ := ho j o g1
          have hk0 : k0 < E.om.length := hlt k0 (List.mem_of_getElem? q1)
          have hp : E.om[k0]? = some p := by
            have := uT (m := st'.boxes.length) q1 (List.getElem?_eq_getElem hk0)
            rw [this] at g2
            rw [List.getElem?_eq_getElem hk0]
            exact g2
          refine Or.inr ⟨o, ?_, ?_, g3⟩
          · rw [List.getD_eq_getElem?_getD, q1]; exact q2
          · rw [List.getD_eq_getElem?_getD, q1]; exact hp
      unf := by
        refine h.unf.map (fun j => pk.getD j 0) fun j o p g1 g2 g3 => ?_
        obtain ⟨k0, q1, q2⟩ := ho j o g1
        have hk0 : k0 < E.om.length := hlt k0 (List.mem_of_getElem? q1)
        have hp : E.om[k0]? = some p := by
          have := uT (m := st'.boxes.length) q1 (List.getElem?_eq_getElem hk0)
          rw [this] at g2
          rw [List.getElem?_eq_getElem hk0]
          exact g2
        refine Or.inr ⟨o, ?_, ?_, g3⟩
        · rw [List.getD_eq_getElem?_getD, q1]; exact q2
        · rw [List.getD_eq_getElem?_getD, q1]; exact hp
      below := h.below
      base := h.base }
end
def yj {X : Type} (F : X → St) (inv : X → Prop) (μ : X → Nat) (x : X) (Q : Exit → St → Prop) : Exit → St → Prop
  | .normal, st => ∃ x' pk, Fe pk st (F x') ∧ inv x' ∧ μ x' < μ x
  | e, st => Q e st
section
variable {P : Program} {Q : Exit → St → Prop} {st : St} {i : Nat}
theorem iM {X : Type} {F : X → St} {inv : X → Prop} {μ : X → Nat} {x : X} (h : Q (.exit i) st) : yj F inv μ x Q (.exit i) st := h
theorem jB {X : Type} {F : X → St} {inv : X → Prop} {μ : X → Nat} {x : X} (h : Q .ret st) : yj F inv μ x Q .ret st := h
theorem QL {X : Type} {F : X → St} {inv : X → Prop} {μ : X → Nat} {x : X} (x' : X) (pk : List Nat) (h1 : Fe pk st (F x')) (h2 : inv x') (h3 : μ x' < μ x) : yj F inv μ x Q .normal st := ⟨x', pk, h1, h2, h3⟩
end
def G7 (os : List Own) (pk : List Nat) : AC → AC → Prop
  | _, .any => True
  | .raw v, .raw u => v = u
  | .raw v, .sl m l => m = true ∧ v = .slice none 0 0 ∧ l = []
  | .sl n l, .sl m l' => n = true ∧ m = true ∧ l = l'
  | .own k i, .sl m l => m = true ∧ k ∉ pk ∧ ∃ o, os[k]? = some o ∧ o.ver = i ∧ o.l = l ∧ (o.nw.n = true ∨ eY l)
  | .own k i, .own j z => pk[j]? = some k ∧ z = 0 ∧ ∃ o, os[k]? = some o ∧ o.ver = i
  | _, _ => False
def qw (os : List Own) (pk : List Nat) : List AC → List AC → Prop
  | [], [] => True
  | x :: xs, y :: ys => G7 os pk x y ∧ qw os pk xs ys
  | _, _ => False
def KT (pk : List Nat) (r : ResultVar) (g : Bool) (ys : List AC) (st : St) : Prop := match r with
  | .tmp t => ∃ xs, st.fr.getD t .any = .c g xs ∧ qw st.owns pk xs ys
  | .cell t _ => ∃ k xs, st.fr.getD t .any = .bptr k 0 ∧ st.boxes[k]? = some xs ∧ qw st.owns pk xs ys
theorem xW {os : List Own} {pk : List Nat} : ∀ {xs ys : List AC}, qw os pk xs ys → xs.length = ys.length
  | [], [], _ => rfl
  | x :: xs, y :: ys, h => by rw [List.length_cons, List.length_cons, xW h.2]
  | [], _ :: _, h => h.elim
  | _ :: _, [], h => h.elim
section
variable {B H : Nat} {X : List Nat} {bm0 : List (Nat × TypeId)} {G : Org} {w0 : World} {st : St} {E : Env} {a : Act} {w : World} {pk : List Nat} {os' : List Own}
structure OutAt (B H : Nat) (X : List Nat) (bm0 : List (Nat × TypeId)) (E : Env) (pk : List Nat) (os : List Own) (os' : List Own) : Prop where
  nw : ∀ x, E.nw x → H ≤ x ∨ x ∈ X
  own : ∀ (k : Nat) (p : Value × List Nat) (x : Nat), E.om[k]? = some p → p.1.ownBlock = some x → H ≤ x
  bm : ∀ q : Nat × TypeId, q ∈ bm0 → ∃ k' : Nat, E.bm[k']? = some q
  get : ∀ (j k : Nat), pk[j]? = some k → ∃ o', os'[j]? = some o'
  lt : ∀ k ∈ pk, k < E.om.length
theorem NI (hA : OutAt B H X bm0 E pk st.owns os') {x : Nat} (hx : x ∈ (⟨H, mG E pk, bm0, X⟩ : Env).M) : x ∈ E.M ∧ ((∃ q ∈ bm0, q.1 = x) ∨ ∃ k ∈ pk, ∃ p, E.om[k]? = some p ∧ p.1.ownBlock = some x) := by
  unfold Env.M at hx
  simp only at hx
  rcases List.mem_append.1 hx with hx | hx
  · obtain ⟨q, hq, rfl⟩ := List.mem_map.1 hx
    obtain ⟨k', hk'⟩ := hA.bm q hq
    exact ⟨iQ.2 (Or.inl ⟨k', q, hk', rfl⟩), Or.inl ⟨q, hq, rfl⟩⟩
  · obtain ⟨q, hq, hqb⟩ := List.mem_flatMap.1 hx
    unfold mG at hq
    obtain ⟨k, hk, rfl⟩ := List.mem_map.1 hq
    have hlt := hA.lt k hk
    rw [List.getD_eq_getElem?_getD, List.getElem?_eq_getElem hlt] at hqb
    have hb : (E.om[k]).1.ownBlock = some x := by simpa using hqb
    exact ⟨iQ.2 (Or.inr ⟨k, _, List.getElem?_eq_getElem hlt, hb⟩), Or.inr ⟨k, hk, _, List.getElem?_eq_getElem hlt, hb⟩⟩
theorem AU (h : Rel B X G w0 st E a w) {k k' : Nat} {q : Nat × TypeId} {p : Value × List Nat} {x : Nat} (h1 : E.bm[k]? = some q) (h2 : E.om[k']? = some p) (h3 : p.1.ownBlock = some x) : q.1 ≠ x := by
  intro e
  have hn := h.nodup
  unfold Env.M at hn
  rw [List.nodup_append] at hn
  exact hn.2.2 q.1 (List.mem_map.2 ⟨q, List.mem_of_getElem? h1, rfl⟩) x (List.mem_flatMap.2 ⟨p, List.mem_of_getElem? h2, by simpa using h3⟩) e
theorem zO (h : Rel B X G w0 st E a w) {i j : Nat} {p q : Value × List Nat} {b : Nat} (hi : E.om[i]? = some p) (hj : E.om[j]? = some q) (hp : p.1.ownBlock = some b) (hq : q.1.ownBlock = some b) : i = j := by
  have hn := h.nodup
  unfold Env.M at hn
  rw [List.nodup_append] at hn
  exact JW _ i j p q b hn.2.1 hi hj hp hq
theorem wK (h : Rel B X G w0 st E a w) (hA : OutAt B H X bm0 E pk st.owns os') {x y : AC} {v : Value} (hf : G7 st.owns pk x y) (hx : x.ok E st.owns w v) : y.ok ⟨H, mG E pk, bm0, X⟩ os' w v := by
  have hmem : ∀ x, x ∉ E.M → x ∉ (⟨H, mG E pk, bm0, X⟩ : Env).M := fun x hx hm => hx (NI hA hm).1
  cases y with
  | any => trivial
  | raw u => cases x with
    | raw v' => obtain rfl := hf; exact hx
    | _ => exact hf.elim
  | sl n l => cases x with
    | sl n' l' =>
      obtain ⟨rfl, rfl, rfl⟩ := hf
      obtain ⟨fp, h1, h2⟩ := hx
      exact ⟨fp, h1, fun b hb => ⟨hmem b (h2 b hb).1, fun _ => hA.nw b ((h2 b hb).2 rfl)⟩⟩
    | own k i =>
      obtain ⟨rfl, hk, o, h1, h2, rfl, h3⟩ := hf
      obtain ⟨_, o', p, g1, g2, g3, g4⟩ := hx
      rw [h1] at g1
      injection g1 with g1
      subst g1
      obtain rfl := g4 h2
      obtain ⟨cs, h5, h6, h7, h8⟩ := h.own k o p h1 g2
      refine ⟨_, Sl.mP h5 h6, fun b hb => ?_⟩
      rcases List.mem_append.1 hb with hb | hb
      · have hb' : p.1.ownBlock = some b := by simpa using hb
        refine ⟨fun hm => ?_, fun _ => Or.inl (hA.own k p b g2 hb')⟩
        rcases (NI hA hm).2 with ⟨q, hq, e⟩ | ⟨k', hk', p', g5, g6⟩
        · obtain ⟨k', hk'⟩ := hA.bm q hq
          exact AU h hk' g2 hb' e
        · exact hk (zO h g2 g5 hb' g6 ▸ hk')
      · refine ⟨hmem b (h8 b hb).1, fun _ => ?_⟩
        rcases h3 with h3 | h3
        · exact hA.nw b ((h8 b hb).2 h3)
        · rw [h3 _ _ _ h6] at hb; simp at hb
    | raw v' =>
      obtain ⟨rfl, rfl, rfl⟩ := hf
      obtain rfl := hx
      exact ⟨[], Sl.mP (l := []) (fp := []) (base := 0) (e := 0) (s := 0) (v := .slice none 0 0) bW.nil ⟨rfl, rfl⟩, fun b hb => by simp at hb⟩
    | any => exact hf.elim
    | osub _ _ _ _ => exact hf.elim
    | cl _ _ => exact hf.elim
  | osub _ _ _ _ => cases x <;> exact hf.elim
  | own j z => cases x with
    | own k i =>
      obtain ⟨hj, rfl, o, h1, h2⟩ := hf
      obtain ⟨hv, o', p, g1, g2, g3, g4⟩ := hx
      rw [h1] at g1
      injection g1 with g1
      subst g1
      obtain ⟨o2, q1⟩ := hA.get j k hj
      refine ⟨hv, o2, p, q1, ?_, Nat.zero_le _, fun _ => g4 h2⟩
      rw [tK hj, List.getD_eq_getElem?_getD, g2]
      rfl
    | _ => exact hf.elim
  | cl f caps => cases x <;> exact hf.elim
theorem qP (h : Rel B X G w0 st E a w) (hA : OutAt B H X bm0 E pk st.owns os') : ∀ {xs ys : List AC} {vs : List Value}, qw st.owns pk xs ys → Oks E st.owns w xs vs → Oks ⟨H, mG E pk, bm0, X⟩ os' w ys vs
  | [], [], [], _, _ => trivial
  | x :: xs, y :: ys, v :: vs, hf, hx => ⟨wK h hA hf.1 hx.1, qP h hA hf.2 hx.2⟩
  | [], [], _ :: _, _, hx => hx.elim
  | _ :: _, _ :: _, [], _, hx => hx.elim
  | [], _ :: _, _, hf, _ => hf.elim
  | _ :: _, [], _, hf, _ => hf.elim
theorem uy {P : Program} (h : Rel B X G w0 st E a w) (hA : OutAt B H X bm0 E pk st.owns os') {r : ResultVar} {g : Bool} {ys : List AC} (hp : dY P r g ys.length = true) (hf : KT pk r g ys st) :
    ∃ v, (iP r a.tmps).run P w = .ok v w ∧ Gok ⟨H, mG E pk, bm0, X⟩ os' w g ys v := by
  cases r with
  | tmp t =>
    obtain ⟨xs, h1, h2⟩ := hf
    refine ⟨_, rfl, ?_⟩
    have hx := qA h h1
    cases g with
    | true => obtain ⟨vs, h3, h4⟩ := hx; exact ⟨vs, h3, qP h hA h2 h4⟩
    | false => exact qP h hA h2 (show Oks E st.owns w xs [_] from hx)
  | cell t ty =>
    obtain ⟨k, xs, h1, h2, h3⟩ := hf
    obtain ⟨p, h4, h5⟩ := qA h h1
    obtain ⟨_, vs, h6, h7⟩ := h.box k xs p h2 h4
    simp only [dY, Bool.and_eq_true, pR] at hp
    obtain ⟨rfl, hp⟩ := hp
    split at hp
    · next i d hi hd =>
      simp only [Bool.and_eq_true, beq_iff_eq] at hp
      have hlen : vs.length = i.size := by rw [← h7.len, xW h3, hp.1]
      refine ⟨.agg vs.toArray, ?_, vs, rfl, qP h hA h3 h7⟩
      simp only [iP]
      rw [h5]
      have := run_loadVar_row (P := P) w p.1 p.2 ty vs.toArray (0, 0) d h6 hd (by have := hp.2; cases d <;> simp_all [lQ]) (by rw [hi]; simp [hlen])
      simp [asAddr, this]
    · cases hp
def KQ (os : List Own) : List Nat → List Own → Prop
  | [], [] => True
  | k :: pk, o' :: os' => (∃ o, os[k]? = some o ∧ o' = ⟨o.l, o.e, o.s, 0, ⟨true, true⟩⟩ ∧ eY o.l) ∧ KQ os pk os'
  | _, _ => False
theorem wW {os : List Own} : ∀ {pk : List Nat} {os' : List Own}, KQ os pk os' → nS os pk os'
  | [], [], _ => trivial
  | k :: pk, o' :: os', h => by
    obtain ⟨⟨o, h1, rfl, h3⟩, h4⟩ := h
    exact ⟨⟨o, h1, rfl, Or.inr h3⟩, wW h4⟩
  | [], _ :: _, h => h.elim
  | _ :: _, [], h => h.elim
theorem Ej {os : List Own} : ∀ {pk : List Nat} {os' : List Own}, KQ os pk os' → ∀ (j k : Nat) (o' : Own), pk[j]? = some k → os'[j]? = some o' → ∃ o, os[k]? = some o ∧ o' = ⟨o.l, o.e, o.s, 0, ⟨true, true⟩⟩ ∧ eY o.l
  | [], [], _, j, k, o', h1, _ => by simp at h1
  | k :: pk, o' :: os', h, 0, k', o2, h1, h2 => by
    simp at h1 h2
    subst h1 h2
    exact h.1
  | k :: pk, o' :: os', h, j + 1, k', o2, h1, h2 => Ej h.2 j k' o2 (by simpa using h1) (by simpa using h2)
  | [], _ :: _, h, _, _, _, _, _ => h.elim
  | _ :: _, [], h, _, _, _, _, _ => h.elim
theorem Pe {w : World} {base base' e s : Nat} {v : Value} {n : Nat} {cs : List Value} (h : bW w base e s v n cs) (hb : ∀ x, v.ownBlock = some x → base' ≤ x) : bW w base' e s v n cs := by
  refine ⟨h.1, ?_⟩
  rcases h.2 with h2 | ⟨g, z, cap, cur, rfl, hb', r⟩
  · exact Or.inl h2
  · exact Or.inr ⟨g, z, cap, cur, rfl, hb g rfl, r⟩
theorem Il {L : List (Value × List Nat)} (hn : (L.flatMap fun q => q.1.ownBlock.toList).Nodup) : ∀ {pk : List Nat}, pk.Nodup → (∀ k ∈ pk, k < L.length) → ((pk.map fun k => L.getD k (undef, [])).flatMap fun q => q.1.ownBlock.toList).Nodup := fun hnd hlt => vY hn hnd hlt
theorem zy (h : Rel B X G w0 st E a w) (hO : ∀ (k : Nat) (p : Value × List Nat) (x : Nat), E.om[k]? = some p → p.1.ownBlock = some x → H ≤ x) (ho : KQ st.owns pk os') (hnd : pk.Nodup) : sU H w (mG E pk) os' := by
  obtain ⟨l1, l2⟩ := nZ (wW ho)
  have hlt : ∀ k ∈ pk, k < E.om.length := fun k hk => by
    obtain ⟨j, hj⟩ := List.mem_iff_getElem?.1 hk
    have hj' : j < os'.length := by rw [← l1]; exact (List.getElem?_eq_some_iff.1 hj).1
    obtain ⟨o2, q1, _⟩ := l2 j k _ hj (List.getElem?_eq_getElem hj')
    rw [h.olen]
    exact (List.getElem?_eq_some_iff.1 q1).1
  have hn := h.nodup
  unfold Env.M at hn
  rw [List.nodup_append] at hn
  have hget : ∀ (j : Nat) (o' : Own) (p : Value × List Nat), os'[j]? = some o' → (mG E pk)[j]? = some p → ∃ k o, pk[j]? = some k ∧ st.owns[k]? = some o ∧ E.om[k]? = some p ∧ o' = ⟨o.l, o.e, o.s, 0, ⟨true, true⟩⟩ ∧ eY o.l := by
    intro j o' p h1 h2
    have hj : j < pk.length := by rw [l1]; exact (List.getElem?_eq_some_iff.1 h1).1
    obtain ⟨o, q1, q2, q3⟩ := Ej ho j pk[j] o' (List.getElem?_eq_getElem hj) h1
    refine ⟨pk[j], o, List.getElem?_eq_getElem hj, q1, ?_, q2, q3⟩
    rw [tK (List.getElem?_eq_getElem hj), List.getD_eq_getElem?_getD, List.getElem?_eq_getElem (hlt _ (List.getElem_mem hj))] at h2
    simp only [Option.getD_some] at h2
    rw [List.getElem?_eq_getElem (hlt _ (List.getElem_mem hj))]
    exact h2
  have hnil : ∀ (j : Nat) (o' : Own) (p : Value × List Nat), os'[j]? = some o' → (mG E pk)[j]? = some p → p.2 = [] := by
    intro j o' p h1 h2
    obtain ⟨k, o, _, g2, g3, rfl, g5⟩ := hget j o' p h1 h2
    obtain ⟨cs, _, h6, _⟩ := h.own k o p g2 g3
    exact g5 _ _ _ h6
  refine ⟨by unfold mG; rw [List.length_map]; exact l1, fun j o' p h1 h2 => ?_, Il hn.2.1 hnd hlt, ⟨fun j o' p h1 h2 _ => by rw [hnil j o' p h1 h2]; exact List.nodup_nil, fun i j o1 o2 p1 p2 _ h1 _ h2 _ _ _ b hb => by rw [hnil i o1 p1 h1 h2] at hb; simp at hb⟩, fun j o' p h1 h2 _ b hb => by rw [hnil j o' p h1 h2] at hb; simp at hb⟩
  have hn2 := hnil j o' p h1 h2
  obtain ⟨k, o, _, g2, g3, rfl, g5⟩ := hget j o' p h1 h2
  obtain ⟨cs, h5, h6, h7, h8⟩ := h.own k o p g2 g3
  exact ⟨cs, Pe h5 (fun x hx => hO k p x g3 hx), h6, h7, fun b hb => by rw [hn2] at hb; simp at hb⟩
end

section
variable {P : Program} {f : Nat} {fn : Func} {code : Code} {ic : IC} {ds : List D}
def vH (P : Program) (r : ResultVar) (post : AV → List Own → List AC → Prop) (st : St) : Prop :=
  ∃ (g : Bool) (ys : List AC) (os' : List Own) (c' : List AC) (pk : List Nat), post (.c g ys) os' c' ∧ ys.all AC.sN = true ∧ st.boxes[0]? = some c' ∧ c'.all AC.cur = true ∧ pk.Nodup ∧ KQ st.owns pk os' ∧ dY P r g ys.length = true ∧ KT pk r g ys st
theorem iY {c : List AC} {r : ResultVar} {post : AV → List Own → List AC → Prop} (hf : P.funcs[f]? = some fn) (hb : fn.body = some code) (hr : fn.results = #[r]) (hc : aF P code = some ic)
    (h : eU (0, 1) P ic (kH (vH P r post)) (stS fn.ntmps (.bptr 0 0 :: ds.map D.av) [] [c])) : eP P f ds c post := by
  intro w b ty us vs X hT hX hrow hok hav
  have hbH : b < w.heap.size := hrow.lt
  have hR0 : Rel b X ⟨⟨w.heap.size, [], [(b, ty)], X⟩, [], w⟩ w ⟨[], [], [c]⟩ ⟨w.heap.size, [], [(b, ty)], X⟩ { tmps := #[], defers := [] } w :=
    { eb := Nat.le_of_lt hbH, ex := rfl, sim := Sim.refl _ _ _, defers := rfl, size := rfl, fr := fun t y hy => by simp at hy, olen := rfl, own := fun k o p g1 g2 => by simp at g1, blen := rfl,
      box := fun k xs p g1 g2 => by
        cases k with
        | zero =>
          simp at g1 g2
          subst g1 g2
          exact ⟨Nat.le_refl _, us, hrow, hok⟩
        | succ k => simp at g1
      nodup := by simp [Env.M], lin := ⟨fun k o p g1 => by simp at g1, fun j k o o' p p' _ g1 => by simp at g1⟩, unf := fun k o p g1 => by simp at g1, below := hT, base := Nat.le_refl _ }
  refine calls_of_wp hf hb ?_
  have := h code hc b X ⟨⟨w.heap.size, [], [(b, ty)], X⟩, [], w⟩ w ⟨Nat.le_refl _, Nat.le_refl _⟩ ⟨w.heap.size, [], [(b, ty)], X⟩ _ w (Bf hR0 (avs := .bptr 0 0 :: ds.map D.av) (vs := .pointer (some ⟨b, 0, none⟩) :: vs) ⟨⟨(b, ty), rfl, rfl⟩, hav⟩ fn.ntmps)
  refine wp_mono this ?_
  rintro e a' w' ⟨st', E', g1, g2⟩
  have fin : vH P r post st' → ∃ v, (results fn a'.tmps).run P w' = .ok v w' ∧ OL X b ty post w (.returned v) w' := by
    rintro ⟨g, ys, os', c', pk, hpost, hys, hbx, hc', hnd, ho, hp, hfin⟩
    have hS := g1.sim
    have hbm : E'.bm[0]? = some (b, ty) := hS.box 0 _ rfl
    have hM0 : ∀ x, x ∈ (⟨w.heap.size, [], [(b, ty)], X⟩ : Env).M → x = b := fun x hx => by simpa [Env.M] using hx
    have hO : ∀ (k : Nat) (p : Value × List Nat) (x : Nat), E'.om[k]? = some p → p.1.ownBlock = some x → w.heap.size ≤ x := by
      intro k p x h1 h2
      refine Nat.le_of_not_lt fun hlt => ?_
      have := hM0 x (hS.old x hlt (iQ.2 (Or.inr ⟨k, p, h1, h2⟩)))
      exact AU g1 hbm h1 h2 this.symm
    obtain ⟨l1, l2⟩ := nZ (wW ho)
    have hA : OutAt b w.heap.size X [(b, ty)] E' pk st'.owns os' :=
      { nw := fun x hx => by rw [hS.base] at hx; exact hx
        own := hO
        bm := fun q hq => ⟨0, by simp at hq; subst hq; exact hbm⟩
        get := fun j k hj => by
          have : j < os'.length := by rw [← l1]; exact (List.getElem?_eq_some_iff.1 hj).1
          exact ⟨_, List.getElem?_eq_getElem this⟩
        lt := fun k hk => by
          obtain ⟨j, hj⟩ := List.mem_iff_getElem?.1 hk
          have hj' : j < os'.length := by rw [← l1]; exact (List.getElem?_eq_some_iff.1 hj).1
          obtain ⟨o2, q1, _⟩ := l2 j k _ hj (List.getElem?_eq_getElem hj')
          rw [g1.olen]
          exact (List.getElem?_eq_some_iff.1 q1).1 }
    obtain ⟨v, h3, h4⟩ := uy g1 hA hp hfin
    obtain ⟨_, us', h5, h6⟩ := g1.box 0 c' (b, ty) hbx hbm
    have hcc : ∀ {xs : List AC} {vs : List Value}, xs.all AC.cur = true → Oks E' st'.owns w' xs vs → Oks ⟨w.heap.size, mG E' pk, [(b, ty)], X⟩ os' w' xs vs := by
      intro xs
      induction xs with
      | nil => intro vs _ hv; cases vs <;> first | trivial | exact hv.elim
      | cons x xs ih =>
        intro vs hx hv
        cases vs with
        | nil => exact hv.elim
        | cons v vs =>
          simp only [List.all_cons, Bool.and_eq_true] at hx
          refine ⟨?_, ih hx.2 hv.2⟩
          cases x with
          | any => trivial
          | raw u => exact hv.1
          | sl n l => exact wK g1 hA (x := .sl n l) ⟨hx.1, hx.1, rfl⟩ hv.1
          | own _ _ => simp [AC.cur] at hx
          | osub _ _ _ _ => simp [AC.cur] at hx
          | cl _ _ => simp [AC.cur] at hx
    exact ⟨v, lY hr _ h3, v, mG E' pk, .c g ys, os', c', us', hpost, hys, hc', rfl, zy g1 hO ho hnd, h4, h5, hcc hc' h6, g1.below.out, fun x hx hne => hS.blk x hx (fun hm => hne (hM0 x hm))⟩
  cases e with
  | normal =>
    obtain ⟨v, h3, h4⟩ := fin g2
    exact ⟨g1.defers, v, h3, h4⟩
  | ret =>
    obtain ⟨v, h3, h4⟩ := fin g2
    exact ⟨g1.defers, v, h3, h4⟩
  | _ => exact g2.elim
theorem Em {B : Nat} {G : Org} {w0 w : World} {st : St} {E : Env} {a : Act} {pk : List Nat} {os' : List Own} (hR : Rel B [] G w0 st E a w) (hB : ∀ (k : Nat) (p : Value × List Nat) (x : Nat), E.om[k]? = some p → p.1.ownBlock = some x → B ≤ x) (ho : nS st.owns pk os') : OutAt B B [] [] E pk st.owns os' := by
  obtain ⟨l1, l2⟩ := nZ ho
  exact
    { nw := fun x hx => wC hR hx
      own := hB
      bm := fun q hq => by simp at hq
      get := fun j k hj => by
        have : j < os'.length := by rw [← l1]; exact (List.getElem?_eq_some_iff.1 hj).1
        exact ⟨_, List.getElem?_eq_getElem this⟩
      lt := fun k hk => by
        obtain ⟨j, hj⟩ := List.mem_iff_getElem?.1 hk
        have hj' : j < os'.length := by rw [← l1]; exact (List.getElem?_eq_some_iff.1 hj).1
        obtain ⟨o2, q1, _⟩ := l2 j k _ hj (List.getElem?_eq_getElem hj')
        rw [hR.olen]
        exact (List.getElem?_eq_some_iff.1 q1).1 }
def WE (P : Program) (r : ResultVar) (post : AV → List Own → Prop) (st : St) : Prop :=
  ∃ (g : Bool) (ys : List AC) (os' : List Own) (pk : List Nat), post (.c g ys) os' ∧ ys.all AC.out = true ∧ pk.Nodup ∧ nS st.owns pk os' ∧ dY P r g ys.length = true ∧ KT pk r g ys st
theorem qj {r : ResultVar} {post : AV → List Own → Prop} (hf : P.funcs[f]? = some fn) (hb : fn.body = some code) (hr : fn.results = #[r]) (hc : aF P code = some ic)
    (h : AWP P ic (kH (WE P r post)) (st0 fn.ntmps ds)) : fA P f ds post := by
  refine nM (post := fun w e w' => ∃ r os', post r os' ∧ r.out = true ∧ x9 r os' w e w') hf hb hc h ?_
  rintro G w w' st E a hR ⟨g, ys, os', pk, hpost, hys, hnd, ho, hp, hfin⟩
  obtain ⟨v, h3, h4⟩ := uy hR (Em hR (fun k p x h1 h2 => (uN hR h1 h2).1) ho) hp hfin
  exact ⟨v, lY hr _ h3, .c g ys, os', hpost, hys, v, mG E pk, rfl, yF hR ho hnd, h4, hR.below.out⟩
def WC (P : Program) (r q : ResultVar) (post : AV → List Own → Prop) (st : St) : Prop :=
  ∃ (g g' : Bool) (ys zs : List AC) (os' : List Own) (pk : List Nat), post (.tup [(g, ys), (g', zs)]) os' ∧ ys.all AC.out = true ∧ zs.all AC.out = true ∧ pk.Nodup ∧ nS st.owns pk os' ∧ dY P r g ys.length = true ∧ dY P q g' zs.length = true ∧ KT pk r g ys st ∧ KT pk q g' zs st
theorem EU {r q : ResultVar} {post : AV → List Own → Prop} (hf : P.funcs[f]? = some fn) (hb : fn.body = some code) (hr : fn.results = #[r, q]) (hc : aF P code = some ic)
    (h : AWP P ic (kH (WC P r q post)) (st0 fn.ntmps ds)) : fA P f ds post := by
  refine nM (post := fun w e w' => ∃ r os', post r os' ∧ r.out = true ∧ x9 r os' w e w') hf hb hc h ?_
  rintro G w w' st E a hR ⟨g, g', ys, zs, os', pk, hpost, hys, hzs, hnd, ho, hp, hq, hfin, hfin2⟩
  have hA := Em hR (fun k p x h1 h2 => (uN hR h1 h2).1) ho
  obtain ⟨v, h3, h4⟩ := uy hR hA hp hfin
  obtain ⟨u, h5, h6⟩ := uy hR hA hq hfin2
  exact ⟨_, qC hr _ h3 h5, _, os', hpost, by simp [AV.out, hys, hzs], _, mG E pk, rfl, yF hR ho hnd, ⟨[v, u], rfl, h4, h6, trivial⟩, hR.below.out⟩
end
section
variable {P : Program} {B : Nat} {Xs : List Nat} {G : Org} {w0 : World} {fr : List AV} {os : List Own} {bs : List (List AC)} {E : Env} {a : Act} {w w' : World}
theorem GU {t : Bool} : ∀ {xs : List AC} {ds : List D} {vs : List Value}, jX [] xs = some ds → (t = true → xs.all AC.nw = true) → Oks E os w xs vs → ∃ fp, Rs w ds fp vs ∧ ∀ b ∈ fp, b < w.heap.size ∧ b ∉ E.M ∧ (t = true → E.nw b)
  | [], ds, [], hd, _, _ => by
    injection hd with hd
    subst hd
    exact ⟨[], ⟨rfl, rfl⟩, fun b hb => by simp at hb⟩
  | x :: xs, ds, v :: vs, hd, hn, hx => by
    rw [jX] at hd
    split at hd
    · next d ds' h1 h2 =>
      injection hd with hd
      subst hd
      have h1' : x.toD = some d := by cases x <;> simp_all [ny]
      obtain ⟨_, _, f1, r1, m1⟩ := toD_ok h1' hx.1
      obtain ⟨f2, r2, m2⟩ := GU h2 (fun e => by have := hn e; simp only [List.all_cons, Bool.and_eq_true] at this; exact this.2) hx.2
      refine ⟨f1 ++ f2, ⟨f1, f2, [v], vs, rfl, rfl, r1, r2⟩, fun b hb => ?_⟩
      rcases List.mem_append.1 hb with hb | hb
      · exact ⟨R.lt r1 b hb, (m1 b hb).1, fun e => (m1 b hb).2 (by have := hn e; simp only [List.all_cons, Bool.and_eq_true] at this; exact this.1)⟩
      · exact m2 b hb
    · cases hd
  | [], _, _ :: _, _, _, h => h.elim
  | _ :: _, _, [], _, _, h => h.elim
theorem XJ {t : Bool} {x : AV} {dd : D} {v : Value} (hd : oO [] x dd) (hn : t = true → x.nw = true) (hx : x.ok E os w v) : ∃ F, RdF w F dd v ∧ ∀ b ∈ F, b < w.heap.size ∧ b ∉ E.M ∧ (t = true → E.nw b) := by
  cases x with
  | c g xs =>
    obtain ⟨h1, rfl⟩ := hd
    unfold RdF
    cases hg : dd.isAgg with
    | true =>
      rw [hg] at hx
      obtain ⟨vs, h2, h3⟩ := hx
      obtain ⟨fp, h4, h5⟩ := GU h1 hn h3
      exact ⟨fp, by rw [if_pos rfl]; exact ⟨fp, vs, h2, nR.2 h4, fun b hb => hb⟩, h5⟩
    | false =>
      rw [hg] at hx
      obtain ⟨fp, h4, h5⟩ := GU h1 hn (show Oks E os w xs [v] from hx)
      exact ⟨fp, by rw [if_neg (by simp)]; exact ⟨fp, nR.2 h4, fun b hb => hb⟩, h5⟩
  | any => exact hd.elim
  | ptr _ => exact hd.elim
  | bptr _ _ => exact hd.elim
  | eptr _ _ _ _ => exact hd.elim
  | tup _ => exact hd.elim
theorem Mc {t : Bool} : ∀ {xs : List AV} {ds : List D} {vs : List Value}, bP [] xs ds → (t = true → xs.all AV.nw = true) → oG E os w xs vs → ∃ F, y9 w F ds vs ∧ ∀ b ∈ F, b < w.heap.size ∧ b ∉ E.M ∧ (t = true → E.nw b)
  | [], [], [], _, _, _ => ⟨[], trivial, fun b hb => by simp at hb⟩
  | x :: xs, d :: ds, v :: vs, hd, hn, hv => by
    obtain ⟨F1, h1, h2⟩ := XJ hd.1 (fun e => by have := hn e; simp only [List.all_cons, Bool.and_eq_true] at this; exact this.1) hv.1
    obtain ⟨F2, h3, h4⟩ := Mc hd.2 (fun e => by have := hn e; simp only [List.all_cons, Bool.and_eq_true] at this; exact this.2) hv.2
    refine ⟨F1 ++ F2, ⟨h1.mono (fun b hb => List.mem_append_left _ hb), h3.mono (fun b hb => List.mem_append_right _ hb)⟩, fun b hb => ?_⟩
    rcases List.mem_append.1 hb with hb | hb
    · exact h2 b hb
    · exact h4 b hb
  | [], _ :: _, _, hd, _, _ => hd.elim
  | _ :: _, [], _, hd, _, _ => hd.elim
  | [], [], _ :: _, _, _, hv => hv.elim
  | _ :: _, _ :: _, [], _, _, hv => hv.elim
def AC.nJ : AC → Bool
  | .raw _ => true
  | .any => true
  | .sl n _ => n
  | _ => false
def AV.nJ : AV → Bool
  | .any => true
  | .c _ xs => xs.all AC.nJ
  | .tup ys => ys.all fun y => y.2.all AC.nJ
  | _ => false
theorem WM {F : List Nat} {t : Bool} {st : St} (h : Rel B Xs G w0 st E a w) (hF : ∀ b ∈ F, b ∉ E.M ∧ (t = true → E.nw b)) {x : AC} {v : Value} (ho : x.nJ = true) (hx : x.ok (kU w.heap.size F) [] w' v) : (x.fl t).ok E st.owns w' v := by
  cases x with
  | any => trivial
  | raw u => exact hx
  | sl n l =>
    obtain rfl : n = true := ho
    obtain ⟨fp, h1, h2⟩ := hx
    refine ⟨fp, h1, fun b hb => ⟨fun hm => ?_, fun e => ?_⟩⟩
    · rcases wX.1 (h2 b hb).1 with h3 | h3
      · have := (wM h hm).2
        omega
      · exact (hF b h3).1 hm
    · rcases wX.1 (h2 b hb).1 with h3 | h3
      · exact h.tN (Nat.le_trans h.base h3)
      · exact (hF b h3).2 e
  | own k i => simp [AC.nJ] at ho
  | osub k i a b => simp [AC.nJ] at ho
  | cl f caps => simp [AC.nJ] at ho
theorem F6 {F : List Nat} {t : Bool} {st : St} (h : Rel B Xs G w0 st E a w) (hF : ∀ b ∈ F, b ∉ E.M ∧ (t = true → E.nw b)) : ∀ {xs : List AC} {vs : List Value}, xs.all AC.nJ = true → Oks (kU w.heap.size F) [] w' xs vs → Oks E st.owns w' (xs.map (AC.fl t)) vs
  | [], [], _, _ => trivial
  | x :: xs, v :: vs, ho, hx => by
    simp only [List.all_cons, Bool.and_eq_true] at ho
    exact ⟨WM h hF ho.1 hx.1, F6 h hF ho.2 hx.2⟩
  | [], _ :: _, _, hx => hx.elim
  | _ :: _, [], _, hx => hx.elim
theorem U7 {F : List Nat} {t : Bool} {st : St} (h : Rel B Xs G w0 st E a w) (hF : ∀ b ∈ F, b ∉ E.M ∧ (t = true → E.nw b)) {r : AV} {v : Value} (ho : r.nJ = true) (hx : r.ok (kU w.heap.size F) [] w' v) : (r.fl t).ok E st.owns w' v := by
  have key : ∀ {g : Bool} {xs : List AC} {v : Value}, xs.all AC.nJ = true → Gok (kU w.heap.size F) [] w' g xs v → Gok E st.owns w' g (xs.map (AC.fl t)) v := by
    intro g xs v hx hv
    cases g with
    | true => obtain ⟨vs, h1, h2⟩ := hv; exact ⟨vs, h1, F6 h hF hx h2⟩
    | false => exact F6 h hF hx (show Oks _ _ _ xs [v] from hv)
  cases r with
  | any => trivial
  | c g xs => exact key ho hx
  | tup ys =>
    obtain ⟨vs, h1, h2⟩ := hx
    refine ⟨vs, h1, ?_⟩
    clear h1
    have ho' : (ys.all fun y => y.2.all AC.nJ) = true := ho
    clear ho
    induction ys generalizing vs with
    | nil => cases vs with
      | nil => trivial
      | cons v vs => exact h2.elim
    | cons y ys ih => cases vs with
      | nil => exact h2.elim
      | cons v vs =>
        simp only [List.all_cons, Bool.and_eq_true] at ho'
        exact ⟨key ho'.1 h2.1, ih vs h2.2 ho'.2⟩
  | ptr _ => cases ho
  | bptr _ _ => cases ho
  | eptr _ _ _ _ => cases ho
theorem gY.toE (t : Bool) {f : Nat} {ds : List D} {ys : List AV} {r : AV} (h : gY P f ds r) (hr : r.nJ = true) (ha : bP [] ys ds) (hn : t = true → ys.all AV.nw = true) : kY P f ys os bs (fun r2 os2 bs2 => r2 = r.fl t ∧ os2 = os ∧ bs2 = bs) := by
  intro B Xs G w0 fr E a w vs hR hv
  obtain ⟨F, h1, h2⟩ := Mc ha hn hv
  refine (h w F vs (fun b hb => (h2 b hb).1) h1 hR.below.now).mono ?_
  rintro e w' ⟨v, rfl, hx, hb⟩
  have hA := hR.here
  have hB := hA.nO hb (d := none) (x := .any) (v := undef) trivial
  exact ⟨v, E, _, _, _, ⟨rfl, rfl, rfl⟩, rfl, hB, U7 hR (fun b hb => ⟨(h2 b hb).2.1, (h2 b hb).2.2⟩) hr hx⟩
def yg (P : Program) (f : Nat) (ds : List D) (c : List AC) (post : AV → List Own → List AC → Prop) : Prop :=
  ∀ (w : World) (b : Nat) (ty : TypeId) (us vs : List Value) (X : List Nat), BelowT b w w → (∀ x ∈ X, x ≠ b ∧ x < w.heap.size) → Row w b ty us → Oks ⟨w.heap.size, [], [(b, ty)], X⟩ [] w c us →
    oG ⟨w.heap.size, [], [(b, ty)], X⟩ [] w (ds.map (D.avN true)) vs → Calls P f (.pointer (some ⟨b, 0, none⟩) :: vs).toArray w (OL X b ty post w)
theorem Xc {H : Nat} {p : Nat × TypeId} {X F : List Nat} {d : D} {v : Value} (hF : ∀ b ∈ F, b ∈ X ∧ b ≠ p.1) (h : RdF w F d v) : (D.avN true d).ok ⟨H, [], [p], X⟩ [] w v := by
  have hM : ∀ b, b ∈ (⟨H, [], [p], X⟩ : Env).M → b = p.1 := fun b hb => by simpa [Env.M] using hb
  unfold D.avN AV.ok Gok
  unfold RdF at h
  cases hg : d.isAgg with
  | true =>
    rw [hg, if_pos rfl] at h
    obtain ⟨fp, cs, h1, h2, h3⟩ := h
    exact ⟨cs, h1, qH h2 (fun b hb => ⟨fun hm => (hF b (h3 b hb)).2 (hM b hm), fun _ => Or.inr (hF b (h3 b hb)).1⟩)⟩
  | false =>
    rw [hg, if_neg (by simp)] at h
    obtain ⟨fp, h2, h3⟩ := h
    exact qH h2 (fun b hb => ⟨fun hm => (hF b (h3 b hb)).2 (hM b hm), fun _ => Or.inr (hF b (h3 b hb)).1⟩)
theorem OC {H : Nat} {p : Nat × TypeId} {X F : List Nat} (hF : ∀ b ∈ F, b ∈ X ∧ b ≠ p.1) : ∀ {ds : List D} {vs : List Value}, y9 w F ds vs → oG ⟨H, [], [p], X⟩ [] w (ds.map (D.avN true)) vs
  | [], [], _ => trivial
  | d :: ds, v :: vs, h => ⟨Xc hF h.1, OC hF h.2⟩
  | [], _ :: _, h => h.elim
  | _ :: _, [], h => h.elim
theorem yg.toE (t : Bool) {f : Nat} {ds : List D} {ys : List AV} {c c0 : List AC} {kc : Nat} {post : AV → List Own → List AC → Prop} (h : yg P f ds c post) (hk : bs[kc]? = some c0) (hc0 : c0.all (AC.cin t) = true) (hc : c0.map (AC.fl true) = c) (ha : bP [] ys ds) (hn : t = true → ys.all AV.nw = true) :
    kY P f (.bptr kc 0 :: ys) os bs (fun r2 os2 bs2 => ∃ r os' c', post r os' c' ∧ r2 = (r.fl t).shift os.length ∧ os2 = os ++ os' ∧ bs2 = bs.set kc (c'.map (AC.fl t))) := by
  subst hc
  intro B Xs G w0 fr E a w vs hR hv
  cases vs with
  | nil => exact hv.elim
  | cons pv vs =>
  obtain ⟨⟨p, hp, rfl⟩, hv⟩ := hv
  obtain ⟨b, ty⟩ := p
  have hpM : b ∈ E.M := iQ.2 (Or.inl ⟨kc, _, hp, rfl⟩)
  obtain ⟨hBb, us, hrow, hok⟩ := hR.box kc c0 (b, ty) hk hp
  simp only at hBb hrow
  have hbH : b < w.heap.size := hrow.lt
  obtain ⟨X1, hX1, hcu⟩ := LW (H := w.heap.size) (p := (b, ty)) t hpM hc0 hok
  obtain ⟨F, hF1, hF2⟩ := Mc ha hn hv
  obtain ⟨X, hXe⟩ : ∃ X, X = X1 ++ F := ⟨_, rfl⟩
  have hX : ∀ x ∈ X, x ∉ E.M ∧ x < w.heap.size ∧ (t = true → E.nw x) := fun x hx => by
    rw [hXe] at hx
    rcases List.mem_append.1 hx with hx | hx
    · exact hX1 x hx
    · exact ⟨(hF2 x hx).2.1, (hF2 x hx).1, (hF2 x hx).2.2⟩
  have hcu' : Oks ⟨w.heap.size, [], [(b, ty)], X⟩ [] w (c0.map (AC.fl true)) us := Oks.Iy (fun x hx => by rw [hXe]; exact List.mem_append_left _ hx) hcu
  have hav := OC (H := w.heap.size) (p := (b, ty)) (X := X) (F := F) (fun x hx => ⟨by rw [hXe]; exact List.mem_append_right _ hx, fun e => (hF2 x hx).2.1 (e ▸ hpM)⟩) hF1
  have hT : BelowT b w w := ⟨Below.refl _ _, fun w' hb' => hR.below.tab w' (hb'.mono hBb)⟩
  refine (h w b ty us vs X hT (fun x hx => ⟨fun e => (hX x hx).1 (e ▸ hpM), (hX x hx).2.1⟩) hrow hcu' hav).mono ?_
  rintro e w' ⟨v, om, r, os', c', us', hpost, hr, hc', rfl, ho, hrok, hrow', hcok, hbel, hsame⟩
  -- the world with the cursor as it was
  obtain ⟨w1, e1, e2⟩ : ∃ w1 : World, w1 = { w' with heap := w'.heap.setIfInBounds b (.cells us.toArray ty (0, 0)) } ∧ True := ⟨_, rfl, trivial⟩
  have hsz : w1.heap.size = w'.heap.size := by rw [e1]; simp
  have hother : ∀ x, x ≠ b → w1.heap[x]? = w'.heap[x]? := fun x hx => by rw [e1]; simp only; rw [Array.getElem?_setIfInBounds_ne (Ne.symm hx)]
  have hself : w1.heap[b]? = some (.cells us.toArray ty (0, 0)) := by
    rw [e1]
    exact Array.getElem?_setIfInBounds_self_of_lt (hrow'.lt)
  have hB1 : Below w.heap.size w w1 := by
    refine ⟨by rw [e1]; exact hbel.os, by rw [e1]; exact hbel.tape, by rw [e1]; exact hbel.output, by rw [hsz]; exact hbel.size, fun x hx => ?_⟩
    by_cases e : x = b
    · subst e
      exact hself.trans hrow.symm
    · rw [hother x e]
      exact hsame x hx e
  have ho1 : sU w.heap.size w1 om os' := zx ho (fun x hx => hother x (by omega)) (Nat.le_of_eq hsz.symm)
  have hA := hR.here
  have hH : ∀ x ∈ E.M, x < w.heap.size := fun x hx => (wM hR hx).2
  have hn : ∀ x, w.heap.size ≤ x → E.nw x := fun x hx => hR.tN (Nat.le_trans hR.base hx)
  have hol : E.om.length = os.length := hR.olen
  have hB := hA.xR (x := .any) (u := undef) hB1 ho1 none (fun _ _ _ _ => trivial)
  have hM2 : ∀ x, x ∈ ({ E with om := E.om ++ om } : Env).M ↔ x ∈ E.M ∨ x ∈ om.flatMap fun q => q.1.ownBlock.toList := fun x => nT E om
  have hsz' : w'.heap.size = w1.heap.size := hsz.symm
  have hC := hB.La (k := kc) (p := (b, ty)) (w' := w') (ys := c'.map (AC.fl t)) (us := us') hk hp
    (by have := uF (os := os) (w1 := w1) (E' := { E with om := E.om ++ om }) (t := t) hpM (fun x hx => ⟨(hX x hx).1, (hX x hx).2.2⟩) hH hn hM2 rfl rfl hol hother (Nat.le_of_eq hsz') (yV hc') hcok
        rwa [sK hc'] at this) hsz' (by rw [e1]; exact ⟨rfl, rfl, rfl⟩) (fun x hx => (hother x hx).symm) hrow' none (x := .any) (v := undef) trivial
  refine ⟨v, _, _, _, _, ⟨r, os', c', hpost, rfl, rfl, rfl⟩, rfl, hC, ?_⟩
  exact J9 (w1 := w') hpM (fun x hx => ⟨(hX x hx).1, (hX x hx).2.2⟩) hH hn hM2 rfl rfl hol (fun _ _ => rfl) (Nat.le_refl _) hr hrok
theorem Ul {f : Nat} {fn : Func} {code : Code} {ic : IC} {ds : List D} {c : List AC} {r : ResultVar} {post : AV → List Own → List AC → Prop} (hf : P.funcs[f]? = some fn) (hb : fn.body = some code) (hr : fn.results = #[r]) (hc : aF P code = some ic)
    (h : eU (0, 1) P ic (kH (vH P r post)) (stS fn.ntmps (.bptr 0 0 :: ds.map (D.avN true)) [] [c])) : yg P f ds c post := by
  intro w b ty us vs X hT hX hrow hok hav
  have hbH : b < w.heap.size := hrow.lt
  have hR0 : Rel b X ⟨⟨w.heap.size, [], [(b, ty)], X⟩, [], w⟩ w ⟨[], [], [c]⟩ ⟨w.heap.size, [], [(b, ty)], X⟩ { tmps := #[], defers := [] } w :=
    { eb := Nat.le_of_lt hbH, ex := rfl, sim := Sim.refl _ _ _, defers := rfl, size := rfl, fr := fun t y hy => by simp at hy, olen := rfl, own := fun k o p g1 g2 => by simp at g1, blen := rfl,
      box := fun k xs p g1 g2 => by
        cases k with
        | zero =>
          simp at g1 g2
          subst g1 g2
          exact ⟨Nat.le_refl _, us, hrow, hok⟩
        | succ k => simp at g1
      nodup := by simp [Env.M], lin := ⟨fun k o p g1 => by simp at g1, fun j k o o' p p' _ g1 => by simp at g1⟩, unf := fun k o p g1 => by simp at g1, below := hT, base := Nat.le_refl _ }
  refine calls_of_wp hf hb ?_
  have := h code hc b X ⟨⟨w.heap.size, [], [(b, ty)], X⟩, [], w⟩ w ⟨Nat.le_refl _, Nat.le_refl _⟩ ⟨w.heap.size, [], [(b, ty)], X⟩ _ w (Bf hR0 (avs := .bptr 0 0 :: ds.map (D.avN true)) (vs := .pointer (some ⟨b, 0, none⟩) :: vs) ⟨⟨(b, ty), rfl, rfl⟩, hav⟩ fn.ntmps)
  refine wp_mono this ?_
  rintro e a' w' ⟨st', E', g1, g2⟩
  have fin : vH P r post st' → ∃ v, (results fn a'.tmps).run P w' = .ok v w' ∧ OL X b ty post w (.returned v) w' := by
    rintro ⟨g, ys, os', c', pk, hpost, hys, hbx, hc', hnd, ho, hp, hfin⟩
    have hS := g1.sim
    have hbm : E'.bm[0]? = some (b, ty) := hS.box 0 _ rfl
    have hM0 : ∀ x, x ∈ (⟨w.heap.size, [], [(b, ty)], X⟩ : Env).M → x = b := fun x hx => by simpa [Env.M] using hx
    have hO : ∀ (k : Nat) (p : Value × List Nat) (x : Nat), E'.om[k]? = some p → p.1.ownBlock = some x → w.heap.size ≤ x := by
      intro k p x h1 h2
      refine Nat.le_of_not_lt fun hlt => ?_
      have := hM0 x (hS.old x hlt (iQ.2 (Or.inr ⟨k, p, h1, h2⟩)))
      exact AU g1 hbm h1 h2 this.symm
    obtain ⟨l1, l2⟩ := nZ (wW ho)
    have hA : OutAt b w.heap.size X [(b, ty)] E' pk st'.owns os' :=
      { nw := fun x hx => by rw [hS.base] at hx; exact hx
        own := hO
        bm := fun q hq => ⟨0, by simp at hq; subst hq; exact hbm⟩
        get := fun j k hj => by
          have : j < os'.length := by rw [← l1]; exact (List.getElem?_eq_some_iff.1 hj).1
          exact ⟨_, List.getElem?_eq_getElem this⟩
        lt := fun k hk => by
          obtain ⟨j, hj⟩ := List.mem_iff_getElem?.1 hk
          have hj' : j < os'.length := by rw [← l1]; exact (List.getElem?_eq_some_iff.1 hj).1
          obtain ⟨o2, q1, _⟩ := l2 j k _ hj (List.getElem?_eq_getElem hj')
          rw [g1.olen]
          exact (List.getElem?_eq_some_iff.1 q1).1 }
    obtain ⟨v, h3, h4⟩ := uy g1 hA hp hfin
    obtain ⟨_, us', h5, h6⟩ := g1.box 0 c' (b, ty) hbx hbm
    have hcc : ∀ {xs : List AC} {vs : List Value}, xs.all AC.cur = true → Oks E' st'.owns w' xs vs → Oks ⟨w.heap.size, mG E' pk, [(b, ty)], X⟩ os' w' xs vs := by
      intro xs
      induction xs with
      | nil => intro vs _ hv; cases vs <;> first | trivial | exact hv.elim
      | cons x xs ih =>
        intro vs hx hv
        cases vs with
        | nil => exact hv.elim
        | cons v vs =>
          simp only [List.all_cons, Bool.and_eq_true] at hx
          refine ⟨?_, ih hx.2 hv.2⟩
          cases x with
          | any => trivial
          | raw u => exact hv.1
          | sl n l => exact wK g1 hA (x := .sl n l) ⟨hx.1, hx.1, rfl⟩ hv.1
          | own _ _ => simp [AC.cur] at hx
          | osub _ _ _ _ => simp [AC.cur] at hx
          | cl _ _ => simp [AC.cur] at hx
    exact ⟨v, lY hr _ h3, v, mG E' pk, .c g ys, os', c', us', hpost, hys, hc', rfl, zy g1 hO ho hnd, h4, h5, hcc hc' h6, g1.below.out, fun x hx hne => hS.blk x hx (fun hm => hne (hM0 x hm))⟩
  cases e with
  | normal =>
    obtain ⟨v, h3, h4⟩ := fin g2
    exact ⟨g1.defers, v, h3, h4⟩
  | ret =>
    obtain ⟨v, h3, h4⟩ := fin g2
    exact ⟨g1.defers, v, h3, h4⟩
  | _ => exact g2.elim
end
theorem aI {os : List Own} {xs : List AV} {ds : List D} (h : bP os xs ds := by first | exact ⟨⟨rfl, rfl⟩, trivial⟩ | exact trivial | exact ⟨⟨rfl, rfl⟩, ⟨rfl, rfl⟩, trivial⟩ | exact ⟨⟨rfl, rfl⟩, ⟨rfl, rfl⟩, ⟨rfl, rfl⟩, trivial⟩ | (simp [St.ev, List.map_cons, List.map_nil, List.getD_cons_zero, List.getD_cons_succ, bP, oO, jX, ny, AC.toD, dV, dh, dH, dU, Value.oneCell', mM, iE, mV, mQ, kT, gW, kW, kV, yI, yJ, fV, fU, UO, AV.fl, AC.fl, AV.shift, AC.shift, List.append_nil]; first | done | rfl)) : bP os xs ds := h
section
variable {P : Program} {K : St → Prop} {d : Option Nat} {f : Nat} {ys : List AV} {rest : List IOp} {st : St} {ds : List D}
theorem au {r : AV} (ha : bP st.owns ys ds := by exact aI) (hr : r.res := by trivial) (hc : aK P f ds r) (h : sw P K rest (st.put d r)) : jK P K d f ys rest st := jg hc hr ha h
theorem ay {m : Bool} {r : AV} (ha : bP (mo m st) ys ds := by exact aI) (hr : r.res := by trivial) (hc : aK P f ds r) (h : sd P m K rest (st.put d r)) : pJ P m K d f ys rest st := gq hc hr ha h
theorem aN (t : Bool) {c c0 : List AC} {kc : Nat} {post : AV → List Own → List AC → Prop} (ha : bP st.owns ys ds := by exact aI) (hk : st.boxes[kc]? = some c0 := by rfl) (hc0 : c0.all (AC.cin t) = true := by rfl) (hc : c0.map (AC.fl true) = c := by rfl) (h : eP P f ds c post)
    (hK : ∀ r os' c', post r os' c' → sw P K rest (St.put ⟨st.fr, st.owns ++ os', st.boxes.set kc (c'.map (AC.fl t))⟩ d ((r.fl t).shift st.owns.length))) : jK P K d f (.bptr kc 0 :: ys) rest st := by
  refine Ky (h.toE t hk hc0 hc ha) ?_
  rintro _ _ _ ⟨r, os', c', hp, rfl, rfl, rfl⟩
  exact hK r os' c' hp
theorem VO (t : Bool) {c c0 : List AC} {kc : Nat} {post : AV → List Own → List AC → Prop} (ha : bP [] ys ds := by exact aI) (hk : st.boxes[kc]? = some c0 := by rfl) (hc0 : c0.all (AC.cin t) = true := by rfl) (hc : c0.map (AC.fl true) = c := by rfl) (hn : t = true → ys.all AV.nw = true := by intro _; rfl) (h : yg P f ds c post)
    (hK : ∀ r os' c', post r os' c' → sw P K rest (St.put ⟨st.fr, st.owns ++ os', st.boxes.set kc (c'.map (AC.fl t))⟩ d ((r.fl t).shift st.owns.length))) : jK P K d f (.bptr kc 0 :: ys) rest st := by
  refine Ky (h.toE t hk hc0 hc ha hn) ?_
  rintro _ _ _ ⟨r, os', c', hp, rfl, rfl, rfl⟩
  exact hK r os' c' hp
theorem iw {post : AV → List Own → Prop} (ha : bP st.owns ys ds := by exact aI) (h : fA P f ds post)
    (hK : ∀ r os', post r os' → sw P K rest (St.put ⟨st.fr, st.owns ++ os', st.boxes⟩ d (r.shift st.owns.length))) : jK P K d f ys rest st := by
  refine Ky (h.toE ha) ?_
  rintro _ _ _ ⟨r, os', hp, rfl, rfl, rfl⟩
  exact hK r os' hp
theorem wH (t : Bool) {r : AV} (ha : bP [] ys ds := by exact aI) (hr : r.nJ = true := by rfl) (hn : t = true → ys.all AV.nw = true := by intro _; rfl) (h : gY P f ds r) (hK : sw P K rest (st.put d (r.fl t))) : jK P K d f ys rest st := by
  refine Ky (h.toE t hr ha hn) ?_
  rintro _ _ _ ⟨rfl, rfl, rfl⟩
  exact hK
end
section
variable {P : Program} {kc : Nat} {m : Bool} {Ts : List Nat} {K : St → Prop} {d : Option Nat} {f : Nat} {xs : List Opd} {rest : List IOp} {st : St} {ds : List D}
theorem jy {xs : List Opd} (h : sn P kc m Ts K (⟨d, none, .call f xs⟩ :: rest) st) : sn P kc m Ts K (⟨d, none, .call f xs⟩ :: rest) st := h
theorem Dv {r : AV} (ha : bP (mo m st) (xs.map st.ev) ds := by exact aI) (hr : r.res := by trivial) (hc : aK P f ds r) (h : sn P kc m Ts K rest (st.put d r)) : sn P kc m Ts K (⟨d, none, .call f xs⟩ :: rest) st := by
  refine UZ ?_
  rw [FU]
  exact gq hc hr ha h
theorem jA (t : Bool) {x : Opd} {c c0 : List AC} {pst : AV → List Own → List AC → Prop} (ha : bP st.owns (xs.map st.ev) ds := by exact aI) (hx : st.ev x = .bptr kc 0 := by rfl) (hk : st.boxes[kc]? = some c0 := by rfl) (hc0 : c0.all (AC.cin t) = true := by rfl) (hc : c0.map (AC.fl true) = c := by rfl) (h : eP P f ds c pst)
    (hne : ∃ r os' c', pst r os' c' ∧ r.sN = true) (hm : ∀ r os' c', pst r os' c' → m = false → os' = [] := by first | (rintro _ _ _ ⟨_, h, _⟩ _; exact h) | (intro _ _ _ _ hm; cases hm)) (hr : ∀ r os' c', pst r os' c' → sn P kc m Ts K rest (St.put ⟨st.fr, st.owns ++ os', st.boxes.set kc (c'.map (AC.fl t))⟩ d ((r.fl t).shift st.owns.length))) : sn P kc m Ts K (⟨d, none, .call f (x :: xs)⟩ :: rest) st :=
  WH t h hx hk hc0 hc ha hne hm hr
theorem Ba {pst : AV → List Own → Prop} (ha : bP st.owns (xs.map st.ev) ds := by exact aI) (h : fA P f ds pst) (hne : ∃ r os', pst r os' ∧ r.out = true) (hm : ∀ r os', pst r os' → m = false → os' = [] := by first | (rintro _ _ ⟨_, h⟩ _; exact h) | (intro _ _ _ hm; cases hm))
    (hr : ∀ r os', pst r os' → sn P kc m Ts K rest (St.put ⟨st.fr, st.owns ++ os', st.boxes⟩ d (r.shift st.owns.length))) : sn P kc m Ts K (⟨d, none, .call f xs⟩ :: rest) st :=
  UR h ha hne hm hr
end
def AC.rel (k v : Nat) (n : Bool) (l : List D) : AC → AC
  | .own j i => if j = k ∧ i = v then .sl n l else .own j i
  | x => x
def AV.rel (k v : Nat) (n : Bool) (l : List D) : AV → AV
  | .c g xs => .c g (xs.map (AC.rel k v n l))
  | x => x
def St.rel (st : St) (k : Nat) (o : Own) : St := ⟨st.fr.map (AV.rel k o.ver o.nw.n o.l), dS st.owns k, st.boxes.map (List.map (AC.rel k o.ver o.nw.n o.l))⟩
section
variable {P : Program} {B : Nat} {Xs : List Nat} {G : Org} {w0 : World} {st : St} {E : Env} {a : Act} {w : World}
theorem WI (h : Rel B Xs G w0 st E a w) {k : Nat} {o : Own} (ho : st.owns[k]? = some o) (h2 : Rel B Xs G w0 ⟨st.fr, dS st.owns k, st.boxes⟩ (E.seal k) a w) {x : AC} {v : Value} (hx : x.ok E st.owns w v) (hx2 : x.ok (E.seal k) (dS st.owns k) w v) : (x.rel k o.ver o.nw.n o.l).ok (E.seal k) (dS st.owns k) w v := by
  cases x with
  | own j i =>
    simp only [AC.rel]
    split
    · next e =>
      obtain ⟨rfl, rfl⟩ := e
      obtain ⟨_, o', p, h3, h4, h5, h6⟩ := hx
      rw [ho] at h3
      injection h3 with h3
      subst h3
      obtain rfl := h6 rfl
      obtain ⟨cs, q1, q2, q3, q4⟩ := h.own j o p ho h4
      have hsm := (yA h.nodup (k := j)).2
      refine ⟨_, Sl.mP q1 q2, fun b hb => ?_⟩
      rcases List.mem_append.1 hb with hb | hb
      · have hb' : p.1.ownBlock = some b := by simpa using hb
        refine ⟨fun hm => ?_, fun _ => h.tN (bW.lt q1 b hb').1⟩
        rcases iQ.1 hm with ⟨k', q, g1, g2⟩ | ⟨k', q, g1, g2⟩
        · exact AU h g1 h4 hb' g2
        · by_cases e : k' = j
          · subst e
            simp only [Env.seal] at g1
            rw [List.getElem?_set_self (List.getElem?_eq_some_iff.1 h4).1] at g1
            injection g1 with g1
            subst g1
            cases g2
          · rw [rY e] at g1
            exact e (zO h g1 h4 g2 hb')
      · exact ⟨fun hm => (q4 b hb).1 (hsm b hm), fun e => (q4 b hb).2 e⟩
    · exact hx2
  | _ => exact hx2
theorem Am (h : Rel B Xs G w0 st E a w) {k : Nat} {o : Own} (ho : st.owns[k]? = some o) (h2 : Rel B Xs G w0 ⟨st.fr, dS st.owns k, st.boxes⟩ (E.seal k) a w) : ∀ {xs : List AC} {vs : List Value}, Oks E st.owns w xs vs → Oks (E.seal k) (dS st.owns k) w xs vs → Oks (E.seal k) (dS st.owns k) w (xs.map (AC.rel k o.ver o.nw.n o.l)) vs
  | [], [], _, _ => trivial
  | x :: xs, v :: vs, hx, hy => ⟨WI h ho h2 hx.1 hy.1, Am h ho h2 hx.2 hy.2⟩
  | [], _ :: _, hx, _ => hx.elim
  | _ :: _, [], hx, _ => hx.elim
theorem Rel.release (h : Rel B Xs G w0 st E a w) {k : Nat} {o : Own} (ho : st.owns[k]? = some o) : Rel B Xs G w0 (st.rel k o) (E.seal k) a w := by
  have h2 : Rel B Xs G w0 ⟨st.fr, dS st.owns k, st.boxes⟩ (E.seal k) a w := Rel.seal (fr := st.fr) (os := st.owns) (bs := st.boxes) h ho
  have hav : ∀ {x : AV} {v : Value}, x.ok E st.owns w v → x.ok (E.seal k) (dS st.owns k) w v → (x.rel k o.ver o.nw.n o.l).ok (E.seal k) (dS st.owns k) w v := by
    intro x v hx hy
    cases x with
    | c g xs =>
      cases g with
      | true =>
        obtain ⟨vs, h3, h4⟩ := hx
        obtain ⟨us, h5, h6⟩ := hy
        subst h3
        have : us = vs := by injection h5 with h5; injection h5 with h5; exact h5.symm
        subst this
        exact ⟨us, rfl, Am h ho h2 h4 h6⟩
      | false => exact Am h ho h2 (show Oks E st.owns w xs [v] from hx) (show Oks _ _ w xs [v] from hy)
    | _ => exact hy
  exact
    { eb := h2.eb, ex := h2.ex, sim := h2.sim, defers := h2.defers
      size := by rw [h2.size]; simp [St.rel]
      fr := fun t x hx => by
        simp only [St.rel, List.getElem?_map] at hx
        obtain ⟨y, hy, rfl⟩ := Option.map_eq_some_iff.1 hx
        exact hav (h.fr t y hy) (h2.fr t y hy)
      olen := h2.olen, own := h2.own
      blen := by rw [h2.blen]; simp [St.rel]
      box := fun j xs p hx hp => by
        simp only [St.rel, List.getElem?_map] at hx
        obtain ⟨ys, hy, rfl⟩ := Option.map_eq_some_iff.1 hx
        obtain ⟨g1, vs, g2, g3⟩ := h2.box j ys p hy hp
        obtain ⟨_, us, g4, g5⟩ := h.box j ys p hy hp
        have : us = vs := by
          have e := g4.symm.trans g2
          injection e with e
          injection e with e1
          injection e1
        subst this
        exact ⟨g1, us, g2, Am h ho h2 g5 g3⟩
      nodup := h2.nodup, lin := h2.lin, unf := h2.unf, below := h2.below, base := h2.base }
theorem zQ {lo : Nat × Nat} {c : IC} {Q : Exit → St → Prop} (k : Nat) {o : Own} (ho : st.owns[k]? = some o) (h : eU lo P c Q (st.rel k o)) : eU lo P c Q st :=
  fun code hc B Xs G w0 hG E a w hR => h code hc B Xs G w0 hG (E.seal k) a w (hR.release ho)
end
theorem pkZ : type_of% (XR @oW.eq_1 (XR @oW.eq_2 (XR @rF.eq_1 (XR @rF.eq_2 (XR @eF.eq_1 (XR @eF.eq_2 (XR @dS.eq_1 (XR @St.put.eq_1 (XR @St.put.eq_2 (XR @St.ev.eq_1 (XR @St.ev.eq_2 (XR @oD.eq_1 (XR @oD.eq_2 (XR @rQ.eq_1 (XR @rQ.eq_2 (XR @D.ones.eq_1 (XR @D.ones.eq_2 (XR @D.szs.eq_1 (XR @D.szs.eq_2 (XR @undef.eq_1 (XR @dV (XR @dh (XR @dH (XR @dU (XR @gJ (@fJ)))))))))))))))))))))))))) := XR @oW.eq_1 (XR @oW.eq_2 (XR @rF.eq_1 (XR @rF.eq_2 (XR @eF.eq_1 (XR @eF.eq_2 (XR @dS.eq_1 (XR @St.put.eq_1 (XR @St.put.eq_2 (XR @St.ev.eq_1 (XR @St.ev.eq_2 (XR @oD.eq_1 (XR @oD.eq_2 (XR @rQ.eq_1 (XR @rQ.eq_2 (XR @D.ones.eq_1 (XR @D.ones.eq_2 (XR @D.szs.eq_1 (XR @D.szs.eq_2 (XR @undef.eq_1 (XR @dV (XR @dh (XR @dH (XR @dU (XR @gJ (@fJ)))))))))))))))))))))))))
theorem aZ {p : Prop} (h : p := by first | (with_reducible rfl) | (with_reducible refine mX ?_; kernel_rfl) | exact jr _ | exact jW _ | exact el_ln _ | exact el_tk _ _ | exact el_td _ _ _ | omega | (simp; done) | (simp; omega)) : p := h
section
variable {P : Program} {B : Nat} {Xs : List Nat} {G : Org} {w0 : World} {st : St} {E : Env} {a : Act} {w : World}
theorem NJ {os : List Own} {x : AC} {u : Value} : ∀ {xs : List AC} {vs : List Value} {j : Nat}, Oks E os w xs vs → (∀ v, vs[j]? = some v → x.ok E os w v) → Oks E os w (xs.set j x) vs
  | [], [], _, _, _ => trivial
  | y :: xs, v :: vs, 0, h, hx => ⟨hx v rfl, h.2⟩
  | y :: xs, v :: vs, j + 1, h, hx => ⟨h.1, NJ (u := u) h.2 (fun z hz => hx z (by simpa using hz))⟩
  | [], _ :: _, _, h, _ => h.elim
  | _ :: _, [], _, h, _ => h.elim
theorem NK {os : List Own} {x : AC} : ∀ {xs : List AC} {vs : List Value} {j : Nat}, Oks E os w xs vs → xs[j]? = some x → ∀ v, vs[j]? = some v → x.ok E os w v
  | [], [], _, _, hx, _, _ => by simp at hx
  | y :: xs, v :: vs, 0, h, hx, z, hz => by
    simp at hx hz
    subst hx hz
    exact h.1
  | y :: xs, v :: vs, j + 1, h, hx, z, hz => NK h.2 (by simpa using hx) z (by simpa using hz)
  | [], _ :: _, _, h, _, _, _ => h.elim
  | _ :: _, [], _, h, _, _, _ => h.elim
def St.Iu (st : St) (kb j e s : Nat) (m : Bool) : St := ⟨st.fr, st.owns ++ [⟨[], e, s, 0, ⟨true, m⟩⟩], st.boxes.set kb ((st.boxes.getD kb []).set j (.own st.owns.length 0))⟩
theorem Rel.Iu (h : Rel B Xs G w0 st E a w) {kb j e s : Nat} {m : Bool} {xs : List AC} (hb : st.boxes[kb]? = some xs) (hx : xs[j]? = some (.raw (.slice none 0 0))) :
    Rel B Xs G w0 (st.Iu kb j e s m) { E with om := E.om ++ [(.slice none 0 0, [])] } a w := by
  have h1 : Rel B Xs G w0 ⟨st.fr, st.owns ++ [⟨[], e, s, 0, ⟨true, m⟩⟩], st.boxes⟩ { E with om := E.om ++ [(.slice none 0 0, [])] } a w :=
    Rel.xR (fr := st.fr) (os := st.owns) (bs := st.boxes) (x := .any) (u := undef) h (Below.refl _ _)
      ⟨rfl, fun k o p hk hp => by
        cases k with
        | zero =>
          simp at hk hp
          subst hk hp
          exact ⟨[], bW.nil, ⟨rfl, rfl⟩, fun d hd => by simp at hd, fun b hb => by simp at hb⟩
        | succ k => simp at hk, by simp [Value.ownBlock], Lin.one (fun _ => List.nodup_nil), Unf.one (fun _ b hb => by simp at hb)⟩ none (fun _ _ _ _ => trivial)
  have hol := h.olen
  exact
    { eb := h1.eb, ex := h1.ex, sim := h1.sim, defers := h1.defers, size := h1.size, fr := h1.fr, olen := h1.olen, own := h1.own
      blen := by rw [h1.blen]; simp [St.Iu]
      box := fun k ys p hy hp => by
        by_cases e1 : kb = k
        · subst e1
          have hlt : kb < st.boxes.length := (List.getElem?_eq_some_iff.1 hb).1
          simp only [St.Iu] at hy
          rw [List.getElem?_set_self hlt] at hy
          injection hy with hy
          subst hy
          have hg : st.boxes.getD kb [] = xs := by rw [List.getD_eq_getElem?_getD, hb]; rfl
          rw [hg]
          obtain ⟨g1, vs, g2, g3⟩ := h1.box kb xs p hb hp
          refine ⟨g1, vs, g2, NJ (u := undef) g3 fun v hv => ?_⟩
          have hv2 : v = .slice none 0 0 := NK g3 hx v hv
          subst hv2
          have e2 : (st.owns ++ [(⟨[], e, s, 0, ⟨true, m⟩⟩ : Own)])[st.owns.length]? = some ⟨[], e, s, 0, ⟨true, m⟩⟩ := by rw [List.getElem?_append_right (Nat.le_refl _)]; simp
          have e3 : (E.om ++ [(Value.slice none 0 0, ([] : List Nat))])[st.owns.length]? = some (.slice none 0 0, []) := by rw [List.getElem?_append_right (by omega), hol]; simp
          exact ⟨⟨none, 0, 0, rfl⟩, ⟨[], e, s, 0, ⟨true, m⟩⟩, (.slice none 0 0, []), e2, e3, Nat.le_refl _, fun _ => rfl⟩
        · simp only [St.Iu] at hy
          rw [List.getElem?_set_ne e1] at hy
          exact h1.box k ys p hy hp
      nodup := h1.nodup, lin := h1.lin, unf := h1.unf, below := h1.below, base := h1.base }
theorem Ut {lo : Nat × Nat} {c : IC} {Q : Exit → St → Prop} (kb j e s : Nat) (m : Bool) {xs : List AC} (hb : st.boxes[kb]? = some xs) (hx : xs[j]? = some (.raw (.slice none 0 0))) (h : eU lo P c Q (st.Iu kb j e s m)) : eU lo P c Q st :=
  fun code hc B Xs G w0 hG E a w hR => h code hc B Xs G w0 hG _ a w (hR.Iu hb hx)
theorem KA {lo : Nat × Nat} {Q : Exit → St → Prop} {X : Type} {c : IC} (F : X → St) (inv : X → Prop) (μ : X → Nat) (x0 : X) (pk0 : List Nat) (h0 : inv x0) (hl0 : lo.1 = 0) (hlo : ∀ x, lo.2 ≤ (F x).boxes.length) (hle : Fe pk0 st (F x0))
    (round : ∀ x, inv x → eU lo P c (yj F inv μ x Q) (F x)) : eU lo P (.loop c) Q st := fun code hc B Xs G w0 hG E a w hR => by
  have hG1 : G.os.length = 0 := Nat.le_zero.1 (hl0 ▸ hG.1)
  have hG2 : ∀ x, G.E.bm.length ≤ (F x).boxes.length := fun x => Nat.le_trans hG.2 (hlo x)
  cases code with
  | loop cc =>
    simp only [aF] at hc
    obtain ⟨c', hcc, he⟩ := Option.map_eq_some_iff.1 hc
    simp only [IC.loop.injEq] at he
    subst he
    obtain ⟨E', hR'⟩ := hR.V4 hle hG1 (hG2 _)
    refine Ec (fun n a w => ∃ x E, μ x = n ∧ inv x ∧ Rel B Xs G w0 (F x) E a w) (μ x0) ⟨x0, E', rfl, h0, hR'⟩ ?_
    rintro n a w ⟨x, E, rfl, hx, hR⟩
    refine wp_mono (round x hx cc hcc B Xs G w0 hG E a w hR) ?_
    rintro e a' w' ⟨st', E', h1, h2⟩
    cases e with
    | normal =>
      obtain ⟨x', pk, h3, h4, h5⟩ := h2
      obtain ⟨E'', h6⟩ := h1.V4 h3 hG1 (hG2 _)
      exact ⟨μ x', h5, x', E'', rfl, h4, h6⟩
    | _ => exact ⟨st', E', h1, h2⟩
  | region id cops b => exact (oC hc (by simp) (by simp)).elim
  | block id x => simp [aF] at hc
  | cond c x y => simp only [aF] at hc; split at hc <;> simp at hc
  | seq x y => simp only [aF] at hc; split at hc <;> simp at hc
  | ret => simp [aF] at hc
  | exit id => simp [aF] at hc
  | skip => simp [aF] at hc
  | label l => simp [aF] at hc
  | rangeFunc => simp [aF] at hc
  | scope => simp [aF] at hc
  | goto => simp [aF] at hc
  | refuse => simp [aF] at hc
theorem L6 {lo : Nat × Nat} {Q : Exit → St → Prop} {X : Type} {c : IC} {fr0 : List AV} {os0 : List Own} {bs0 : List (List AC)} (sp : X → List Sp) (ow : X → List Own) (bx : X → List (List AC) → List (List AC)) (inv : X → Prop) (μ : X → Nat) (x0 : X) (pk0 : List Nat) (h0 : inv x0) (hl0 : lo.1 = 0)
    (hlo : ∀ x, lo.2 ≤ (bx x bs0).length) (hle : Fe pk0 ⟨fr0, os0, bs0⟩ (FB fr0 bs0 sp ow bx x0)) (round : ∀ x, inv x → eU lo P c (yj (FB fr0 bs0 sp ow bx) inv μ x Q) (FB fr0 bs0 sp ow bx x)) : eU lo P (.loop c) Q ⟨fr0, os0, bs0⟩ :=
  KA (FB fr0 bs0 sp ow bx) inv μ x0 pk0 h0 hl0 hlo hle round
end
theorem szD (xs : Array UInt8) : ByteArray.size ⟨xs⟩ = xs.size := rfl
theorem nv {G H : Prop} (k : H) (h : H → G := by first | (with_reducible first | exact kN | exact iK | exact jG | exact jH | exact kP | exact rP | exact jv | exact kK | exact fG | exact iH | exact jF | exact iD | exact jC | exact iM | exact jB) | ((with_reducible refine iG ?_); rfl) | ((with_reducible refine iI ?_); rfl) | ((with_reducible refine iJ ?_); rfl)) : G := h k
section
variable {lo : Nat × Nat} {P : Program} {K : St → Prop} {Q : Exit → St → Prop} {st : St} {m : Bool} {F H : Prop} {l : List IOp}
theorem ss (f : F) (k : H) (h : F → (sw P K l st) = H := by intro f; conv => lhs; simp (disch := first | decide | omega) only [↓pkS, pkW, pkA, pkZ, List.flatMap_cons, List.flatMap_nil, List.append_nil, jT, lvD, lcD, lvK, lcK, jh, ex, kav, gdA, opI, fH, rW, jL, AV.toD, AC.toD, AV.nw, AC.nw, AC.one, Value.oneCell', if_true, if_false, Bool.false_eq_true, jR, D.one, D.sz, Nat.reduceAdd, Nat.reduceSub, Nat.reduceLeDiff, Nat.reduceEqDiff, reduceIte, pkN, UO, Int.reduceLT, Int.reduceLE, AV.fl, AC.fl, AV.shift, AC.shift, szD, List.size_toArray, ByteArray.size_append, yE, eqV, eqC, f]) : sw P K l st := (h f).mpr k
theorem sx (f : F) (k : H) (h : F → (sd P m K l st) = H := by intro f; conv => lhs; simp (disch := first | decide | omega) only [↓pkR, pkD, pkA, pkZ, List.flatMap_cons, List.flatMap_nil, List.append_nil, jT, lvD, lcD, lvK, lcK, jh, ex, kav, gdA, opI, fH, rW, jL, AV.toD, AC.toD, AV.nw, AC.nw, AC.one, Value.oneCell', if_true, if_false, Bool.false_eq_true, jR, D.one, D.sz, Nat.reduceAdd, Nat.reduceSub, Nat.reduceLeDiff, Nat.reduceEqDiff, reduceIte, pkN, UO, Int.reduceLT, Int.reduceLE, AV.fl, AC.fl, AV.shift, AC.shift, szD, List.size_toArray, ByteArray.size_append, yE, eqV, eqC, f]) : sd P m K l st := (h f).mpr k
theorem nN {G : Prop} (k : H) (h : H → G := by intro k; first | ((with_reducible refine UW ?_ k); (intro off; simp only [↓pkR, St.ev, List.getD_cons_zero, List.getD_cons_succ]; first | done | (intro hx; cases hx) | (simp; done))) | ((with_reducible refine UU ?_ k); rfl) | ((with_reducible refine QA ?_ k); rfl) | (with_reducible exact UY k)) : G := h k
theorem rD {G : Prop} (k : H) (h : H → G := by intro k; first | (with_reducible exact aG k) | ((with_reducible refine bK false ?_ k); rfl) | ((with_reducible refine bK true ?_ k); rfl) | ((with_reducible refine EY false ?_ k); rfl) | ((with_reducible refine EY true ?_ k); rfl)) : G := h k
theorem sS {G : Prop} (f : F) (k : H) (h : F → G = H := by intro f; conv => lhs; simp only [undef, stS, st0, stN, D.av, D.avN, kT, gW, kW, kV, lJ, pW, fV, fU, UO, List.map_cons, List.map_nil, List.replicate, List.cons_append, List.nil_append, List.length_cons, List.length_nil, Nat.reduceAdd, Nat.reduceSub, f]) : G := (h f).mpr k
theorem cS {c : Opd} {x y : IC} {b : Bool} {p q : Prop} (hb : st.ev c = .c false [.raw (.bool b)]) (h1 : b = true → p → eU lo P x Q st) (h2 : b = false → q → eU lo P y Q st) (hp : (b = true) = p := by conv => lhs; (try simp only [pkC])) (hq : (b = false) = q := by conv => lhs; (try simp only [pkC])) : eU lo P (.cond c x y) Q st :=
  jI hb (fun h => h1 h (hp.mp h)) (fun h => h2 h (hq.mp h))
section
variable {d : Option Nat} {g : Nat} {w b : Bool} {i : I} {rest : List IOp}
theorem gi (k : sw P K (⟨d, some (g, w), i⟩ :: rest) st) : sw P K (⟨d, some (g, w), i⟩ :: rest) st := k
theorem gxi (k : sd P m K (⟨d, some (g, w), i⟩ :: rest) st) : sd P m K (⟨d, some (g, w), i⟩ :: rest) st := k
theorem gF (k : H) (h : (sw P K rest (st.put d (.c false [.raw undef]))) = H := by conv => lhs; (try simp only [St.put, undef, pkA, Nat.reduceAdd, Nat.reduceSub, Nat.reduceLeDiff, Nat.reduceEqDiff])) : sw P K rest (st.put d (.c false [.raw undef])) := h.mpr k
theorem gS {p q : Prop} (hg : st.fr.getD g .any = .c false [.raw (.bool b)]) (h1 : b = w → p → sw P K (⟨d, none, i⟩ :: rest) st) (h2 : b = !w → q → sw P K rest (st.put d (.c false [.raw undef]))) (hp : (b = w) = p := by conv => lhs; (try simp only [pkC])) (hq : (b = !w) = q := by conv => lhs; (try simp only [pkC])) :
    sw P K (⟨d, some (g, w), i⟩ :: rest) st := OV hg (fun h => h1 h (hp.mp h)) (fun h => h2 h (hq.mp h))
theorem gxF (k : H) (h : (sd P m K rest (st.put d (.c false [.raw undef]))) = H := by conv => lhs; (try simp only [St.put, undef, pkA, Nat.reduceAdd, Nat.reduceSub, Nat.reduceLeDiff, Nat.reduceEqDiff])) : sd P m K rest (st.put d (.c false [.raw undef])) := h.mpr k
theorem gxS {p q : Prop} (hg : st.fr.getD g .any = .c false [.raw (.bool b)]) (h1 : b = w → p → sd P m K (⟨d, none, i⟩ :: rest) st) (h2 : b = !w → q → sd P m K rest (st.put d (.c false [.raw undef]))) (hp : (b = w) = p := by conv => lhs; (try simp only [pkC])) (hq : (b = !w) = q := by conv => lhs; (try simp only [pkC])) :
    sd P m K (⟨d, some (g, w), i⟩ :: rest) st := O1 hg (fun h => h1 h (hp.mp h)) (fun h => h2 h (hq.mp h))
end
end
end Go.Proofs.Ytnongnchpplacaa

