/-
  Whole code in states.
-/
import Derived.Test.YtdjcflnemnknaaaDoorIrD2
namespace Go.Proofs.YtdjcflnemnknaaaDoor
open Go.RowKit
set_option linter.unusedSimpArgs false
set_option linter.unusedVariables false

inductive IC where
  | reg (dr : Bool) (ops : List IOp)
  | seq (x y : IC)
  | cond (c : Opd) (x y : IC)
  | block (id : Nat) (x : IC)
  | loop (x : IC)
  | exit (id : Nat)
  | ret
  | skip
def compC (P : Program) : Code → Option IC
  | .region id ops false => (compOps P ops ops.toList).map (IC.reg false)
  | .region id ops true => (match compOps P ops ops.toList with | some is => if P.follows .mixedOrders && drawB ops.toList is then some (.reg true is) else none | none => none)
  | .seq x y => (match compC P x, compC P y with | some x, some y => some (.seq x y) | _, _ => none)
  | .cond c x y => (match compC P x, compC P y with | some x, some y => some (.cond (opd c) x y) | _, _ => none)
  | .block id x => (compC P x).map (IC.block id)
  | .loop x => (compC P x).map IC.loop
  | .exit id => some (.exit id)
  | .ret => some .ret
  | .skip => some .skip
  | .label _ => some .skip
  | _ => none

theorem comp_reg {P : Program} {id : Nat} {ops : Array Oper} {b : Bool} {c : IC} (h : compC P (.region id ops b) = some c) (hc : ∀ d l, c ≠ .reg d l) : False := by
  cases b with
  | false =>
    simp only [compC] at h
    obtain ⟨l, _, he⟩ := Option.map_eq_some_iff.1 h
    exact hc _ _ he.symm
  | true =>
    simp only [compC] at h
    split at h
    · split at h
      · injection h with h
        exact hc _ _ h.symm
      · cases h
    · cases h
/-- What is left to be shown at a piece of code, in a state. -/
def AWPn (lo : Nat × Nat) (P : Program) (c : IC) (Q : Exit → St → Prop) (st : St) : Prop :=
  ∀ (code : Code), compC P code = some c → ∀ (B : Nat) (Xs : List Nat) (G : Org) (w0 : World), (G.os.length ≤ lo.1 ∧ G.E.bm.length ≤ lo.2) → ∀ (E : Env) (a : Act) (w : World), Rel B Xs G w0 st E a w → code.wp P (fun e a' w' => ∃ st' E', Rel B Xs G w0 st' E' a' w' ∧ Q e st') a w
abbrev AWP (P : Program) (c : IC) (Q : Exit → St → Prop) (st : St) : Prop := AWPn (0, 0) P c Q st
def AThenN (lo : Nat × Nat) (P : Program) (y : IC) (Q : Exit → St → Prop) : Exit → St → Prop
  | .normal, st => AWPn lo P y Q st
  | e, st => Q e st
def ABlock (id : Nat) (Q : Exit → St → Prop) : Exit → St → Prop
  | .exit id', st => if id' = id then Q .normal st else Q (.exit id') st
  | e, st => Q e st
section
variable {lo : Nat × Nat} {P : Program} {Q : Exit → St → Prop} {st : St}
theorem awp_mono {c : IC} {Q' : Exit → St → Prop} (h : AWPn lo P c Q st) (hq : ∀ e st, Q e st → Q' e st) : AWPn lo P c Q' st :=
  fun code hc B Xs G w0 hG E a w hR => wp_mono (h code hc B Xs G w0 hG E a w hR) fun e a' w' ⟨st', E', h1, h2⟩ => ⟨st', E', h1, hq e st' h2⟩
theorem awp_skip (h : Q .normal st) : AWPn lo P .skip Q st := fun code hc B Xs G w0 hG E a w hR => by
  cases code with
  | skip => exact wp_skip ⟨st, E, hR, h⟩
  | label l => exact wp_label ⟨st, E, hR, h⟩
  | region id ops b => exact (comp_reg hc (by simp)).elim
  | seq x y => simp only [compC] at hc; split at hc <;> simp at hc
  | cond c x y => simp only [compC] at hc; split at hc <;> simp at hc
  | block id x => simp [compC] at hc
  | loop x => simp [compC] at hc
  | exit id => simp [compC] at hc
  | ret => simp [compC] at hc
  | rangeFunc => simp [compC] at hc
  | scope => simp [compC] at hc
  | goto => simp [compC] at hc
  | refuse => simp [compC] at hc
theorem awp_exit {id : Nat} (h : Q (.exit id) st) : AWPn lo P (.exit id) Q st := fun code hc B Xs G w0 hG E a w hR => by
  cases code with
  | exit id => simp [compC] at hc; subst hc; exact wp_exit ⟨st, E, hR, h⟩
  | skip => simp [compC] at hc
  | label l => simp [compC] at hc
  | region id ops b => exact (comp_reg hc (by simp)).elim
  | seq x y => simp only [compC] at hc; split at hc <;> simp at hc
  | cond c x y => simp only [compC] at hc; split at hc <;> simp at hc
  | block id x => simp [compC] at hc
  | loop x => simp [compC] at hc
  | ret => simp [compC] at hc
  | rangeFunc => simp [compC] at hc
  | scope => simp [compC] at hc
  | goto => simp [compC] at hc
  | refuse => simp [compC] at hc
theorem awp_ret (h : Q .ret st) : AWPn lo P .ret Q st := fun code hc B Xs G w0 hG E a w hR => by
  cases code with
  | ret => exact wp_ret ⟨st, E, hR, h⟩
  | exit id => simp [compC] at hc
  | skip => simp [compC] at hc
  | label l => simp [compC] at hc
  | region id ops b => exact (comp_reg hc (by simp)).elim
  | seq x y => simp only [compC] at hc; split at hc <;> simp at hc
  | cond c x y => simp only [compC] at hc; split at hc <;> simp at hc
  | block id x => simp [compC] at hc
  | loop x => simp [compC] at hc
  | rangeFunc => simp [compC] at hc
  | scope => simp [compC] at hc
  | goto => simp [compC] at hc
  | refuse => simp [compC] at hc
theorem awp_seq {x y : IC} (h : AWPn lo P x (AThenN lo P y Q) st) : AWPn lo P (.seq x y) Q st := fun code hc B Xs G w0 hG E a w hR => by
  cases code with
  | seq cx cy =>
    simp only [compC] at hc
    split at hc
    · next x' y' hx hy =>
      simp only [Option.some.injEq, IC.seq.injEq] at hc
      obtain ⟨rfl, rfl⟩ := hc
      refine wp_seq (wp_mono (h cx hx B Xs G w0 hG E a w hR) ?_)
      rintro e a' w' ⟨st', E', h1, h2⟩
      cases e with
      | normal => exact h2 cy hy B Xs G w0 hG E' a' w' h1
      | _ => exact ⟨st', E', h1, h2⟩
    · cases hc
  | ret => simp [compC] at hc
  | exit id => simp [compC] at hc
  | skip => simp [compC] at hc
  | label l => simp [compC] at hc
  | region id ops b => exact (comp_reg hc (by simp)).elim
  | cond c x y => simp only [compC] at hc; split at hc <;> simp at hc
  | block id x => simp [compC] at hc
  | loop x => simp [compC] at hc
  | rangeFunc => simp [compC] at hc
  | scope => simp [compC] at hc
  | goto => simp [compC] at hc
  | refuse => simp [compC] at hc
theorem awp_cond {c : Opd} {x y : IC} {b : Bool} (hb : st.ev c = .c false [.raw (.bool b)]) (h1 : b = true → AWPn lo P x Q st) (h2 : b = false → AWPn lo P y Q st) : AWPn lo P (.cond c x y) Q st := fun code hc B Xs G w0 hG E a w hR => by
  cases code with
  | cond o cx cy =>
    simp only [compC] at hc
    split at hc
    · next x' y' hx hy =>
      simp only [Option.some.injEq, IC.cond.injEq] at hc
      obtain ⟨rfl, rfl, rfl⟩ := hc
      have he := eval_raw hR hb
      cases b with
      | true => exact wp_cond_true he (h1 rfl cx hx B Xs G w0 hG E a w hR)
      | false => exact wp_cond_false he (h2 rfl cy hy B Xs G w0 hG E a w hR)
    · cases hc
  | seq x y => simp only [compC] at hc; split at hc <;> simp at hc
  | ret => simp [compC] at hc
  | exit id => simp [compC] at hc
  | skip => simp [compC] at hc
  | label l => simp [compC] at hc
  | region id ops b => exact (comp_reg hc (by simp)).elim
  | block id x => simp [compC] at hc
  | loop x => simp [compC] at hc
  | rangeFunc => simp [compC] at hc
  | scope => simp [compC] at hc
  | goto => simp [compC] at hc
  | refuse => simp [compC] at hc
theorem awp_block {id : Nat} {x : IC} (h : AWPn lo P x (ABlock id Q) st) : AWPn lo P (.block id x) Q st := fun code hc B Xs G w0 hG E a w hR => by
  cases code with
  | block id' cx =>
    simp only [compC] at hc
    obtain ⟨x', hx, he⟩ := Option.map_eq_some_iff.1 hc
    simp only [IC.block.injEq] at he
    obtain ⟨rfl, rfl⟩ := he
    refine wp_block (wp_mono (h cx hx B Xs G w0 hG E a w hR) ?_)
    rintro e a' w' ⟨st', E', h1, h2⟩
    cases e with
    | exit j =>
      simp only [Exit.inBlock, ABlock] at h2 ⊢
      split
      · next e => rw [if_pos e] at h2; exact ⟨st', E', h1, h2⟩
      · next e => rw [if_neg e] at h2; exact ⟨st', E', h1, h2⟩
    | _ => exact ⟨st', E', h1, h2⟩
  | cond c x y => simp only [compC] at hc; split at hc <;> simp at hc
  | seq x y => simp only [compC] at hc; split at hc <;> simp at hc
  | ret => simp [compC] at hc
  | exit id => simp [compC] at hc
  | skip => simp [compC] at hc
  | label l => simp [compC] at hc
  | region id ops b => exact (comp_reg hc (by simp)).elim
  | loop x => simp [compC] at hc
  | rangeFunc => simp [compC] at hc
  | scope => simp [compC] at hc
  | goto => simp [compC] at hc
  | refuse => simp [compC] at hc
theorem awp_reg {ops : List IOp} (h : ∀ K : St → Prop, (∀ st', Q .normal st' → K st') → sw P K ops st) : AWPn lo P (.reg false ops) Q st := fun code hc B Xs G w0 hG E a w hR => by
  cases code with
  | region id cops b =>
    cases b with
    | true =>
      simp only [compC] at hc
      split at hc
      · split at hc <;> simp at hc
      · cases hc
    | false =>
      simp only [compC] at hc
      obtain ⟨l, hl, he⟩ := Option.map_eq_some_iff.1 hc
      simp only [IC.reg.injEq] at he
      obtain ⟨_, rfl⟩ := he
      exact wp_region_list (wpList_sw (K := Q .normal) (fun st' E' a' w' h1 h2 => ⟨st', E', h1, h2⟩) _ _ st E a w hl hR (h _ fun _ h => h))
  | block id x => simp [compC] at hc
  | cond c x y => simp only [compC] at hc; split at hc <;> simp at hc
  | seq x y => simp only [compC] at hc; split at hc <;> simp at hc
  | ret => simp [compC] at hc
  | exit id => simp [compC] at hc
  | skip => simp [compC] at hc
  | label l => simp [compC] at hc
  | loop x => simp [compC] at hc
  | rangeFunc => simp [compC] at hc
  | scope => simp [compC] at hc
  | goto => simp [compC] at hc
  | refuse => simp [compC] at hc

theorem awp_regD {ops : List IOp} (m : Bool) (hm : m = ops.any fun o => o.i.cls == 3) (h : ∀ K : St → Prop, (∀ st', Q .normal st' → K st') → sd P m K ops st) : AWPn lo P (.reg true ops) Q st := fun code hc B Xs G w0 hG E a w hR => by
  cases code with
  | region id cops b =>
    cases b with
    | false =>
      simp only [compC] at hc
      obtain ⟨l, hl, he⟩ := Option.map_eq_some_iff.1 hc
      simp at he
    | true =>
      simp only [compC] at hc
      split at hc
      · next l hl =>
        split at hc
        · next hd =>
          simp only [Bool.and_eq_true] at hd
          injection hc with hc
          simp only [IC.reg.injEq] at hc
          obtain ⟨_, rfl⟩ := hc
          exact wp_sd (K := Q .normal) hd.1 hl hd.2 hm (fun st' E' a' w' h1 h2 => ⟨st', E', h1, h2⟩) (h _ fun _ h => h) hR
        · cases hc
      · cases hc
  | block id x => simp [compC] at hc
  | cond c x y => simp only [compC] at hc; split at hc <;> simp at hc
  | seq x y => simp only [compC] at hc; split at hc <;> simp at hc
  | ret => simp [compC] at hc
  | exit id => simp [compC] at hc
  | skip => simp [compC] at hc
  | label l => simp [compC] at hc
  | loop x => simp [compC] at hc
  | rangeFunc => simp [compC] at hc
  | scope => simp [compC] at hc
  | goto => simp [compC] at hc
  | refuse => simp [compC] at hc

/-! ### Less is known -/
def AC.fits (n m : Nat) : AC → Bool
  | .own k _ => decide (k < n)
  | .osub k _ _ _ => decide (k < n)
  | .cl _ caps => caps.all fun k => decide (k < m)
  | _ => true
def AV.fits (n m : Nat) : AV → Bool
  | .c _ xs => xs.all (AC.fits n m)
  | .ptr xs => xs.all (AC.fits n m)
  | .bptr k _ => decide (k < m)
  | .eptr k _ _ _ => decide (k < n)
  | .tup ys => ys.all fun y => y.2.all (AC.fits n m)
  | .any => true
/-- Slot by slot: the same, or nothing. -/
def FrLe (n m : Nat) : List AV → List AV → Prop
  | [], [] => True
  | x :: xs, y :: ys => (y = .any ∨ (x = y ∧ y.fits n m = true)) ∧ FrLe n m xs ys
  | _, _ => False
def StLe (st st' : St) : Prop := FrLe st'.owns.length st'.boxes.length st.fr st'.fr ∧ (∃ r, st.owns = st'.owns ++ r) ∧ (∃ r, st.boxes = st'.boxes ++ r) ∧ ∀ xs ∈ st'.boxes, xs.all (AC.fits st'.owns.length st'.boxes.length) = true
def OwnLe : List Own → List Own → Prop
  | _, [] => True
  | o :: os, o' :: os' => (o.l = o'.l ∧ o.e = o'.e ∧ o.s = o'.s ∧ o.ver = o'.ver ∧ o.nw = o'.nw) ∧ OwnLe os os'
  | [], _ :: _ => False
def BoxLe : List (List AC) → List (List AC) → Prop
  | _, [] => True
  | x :: xs, y :: ys => x = y ∧ BoxLe xs ys
  | [], _ :: _ => False
def StLe' (st st' : St) : Prop := FrLe st'.owns.length st'.boxes.length st.fr st'.fr ∧ OwnLe st.owns st'.owns ∧ BoxLe st.boxes st'.boxes ∧ (st'.boxes.all fun xs => xs.all (AC.fits st'.owns.length st'.boxes.length)) = true
theorem ownLe_spec : ∀ {os os' : List Own}, OwnLe os os' → ∃ r, os = os' ++ r
  | os, [], _ => ⟨os, rfl⟩
  | o :: os, o' :: os', h => by
    obtain ⟨r, hr⟩ := ownLe_spec h.2
    obtain ⟨⟨h1, h2, h3, h4, h5⟩, _⟩ := h
    refine ⟨r, ?_⟩
    rw [List.cons_append, ← hr]
    congr 1
    cases o; cases o'; simp_all
  | [], _ :: _, h => h.elim
theorem boxLe_spec : ∀ {xs ys : List (List AC)}, BoxLe xs ys → ∃ r, xs = ys ++ r
  | xs, [], _ => ⟨xs, rfl⟩
  | x :: xs, y :: ys, h => by
    obtain ⟨r, hr⟩ := boxLe_spec h.2
    exact ⟨r, by rw [List.cons_append, ← hr, h.1]⟩
  | [], _ :: _, h => h.elim
theorem stLe_of {st st' : St} (h : StLe' st st') : StLe st st' := by
  obtain ⟨h1, h2, h3, h4⟩ := h
  exact ⟨h1, ownLe_spec h2, boxLe_spec h3, fun xs hx => List.all_eq_true.1 h4 xs hx⟩
section
variable {E : Env} {os os' : List Own} {w : World} {n m : Nat}
def Env.cut (E : Env) (n m : Nat) : Env := { E with om := E.om.take n, bm := E.bm.take m }
theorem cut_M {b : Nat} (h : b ∈ (E.cut n m).M) : b ∈ E.M := by
  rcases mem_M.1 h with ⟨k, p, h1, h2⟩ | ⟨k, p, h1, h2⟩
  · refine mem_M.2 (Or.inl ⟨k, p, ?_, h2⟩)
    simp only [Env.cut] at h1
    rw [List.getElem?_take] at h1
    split at h1
    · exact h1
    · cases h1
  · refine mem_M.2 (Or.inr ⟨k, p, ?_, h2⟩)
    simp only [Env.cut] at h1
    rw [List.getElem?_take] at h1
    split at h1
    · exact h1
    · cases h1
theorem AC.ok.cut {r : List Own} {x : AC} {v : Value} (h : x.ok E (os ++ r) w v) (hn : os.length = n) (hf : x.fits n m = true) : x.ok (E.cut n m) os w v := by
  cases x with
  | any => trivial
  | raw u => exact h
  | cl f caps =>
    obtain ⟨ps, h1, h2⟩ := h
    refine ⟨ps, ?_, h2⟩
    rw [← h1]
    refine List.map_congr_left fun k hk => ?_
    have : k < m := by simpa using List.all_eq_true.1 hf k hk
    simp only [Env.cut]
    rw [List.getElem?_take, if_pos this]
  | sl b l =>
    obtain ⟨fp, h1, h2⟩ := h
    exact ⟨fp, h1, fun b hb => ⟨fun hm => (h2 b hb).1 (cut_M hm), (h2 b hb).2⟩⟩
  | own k i =>
    obtain ⟨hv, o, p, h1, h2, h3, h4⟩ := h
    have hk : k < n := by simpa [AC.fits] using hf
    refine ⟨hv, o, p, ?_, ?_, h3, h4⟩
    · rwa [List.getElem?_append_left (by omega)] at h1
    · simp only [Env.cut]
      rw [List.getElem?_take, if_pos hk]
      exact h2
  | osub k i pa pb =>
    obtain ⟨hv, o, p, h1, h2, h3, h4⟩ := h
    have hk : k < n := by simpa [AC.fits] using hf
    refine ⟨hv, o, p, ?_, ?_, h3, h4⟩
    · rwa [List.getElem?_append_left (by omega)] at h1
    · simp only [Env.cut]
      rw [List.getElem?_take, if_pos hk]
      exact h2
theorem Oks.cut {r : List Own} (hn : os.length = n) : ∀ {xs : List AC} {vs : List Value}, Oks E (os ++ r) w xs vs → xs.all (AC.fits n m) = true → Oks (E.cut n m) os w xs vs
  | [], [], _, _ => trivial
  | x :: xs, v :: vs, h, hf => by
    simp only [List.all_cons, Bool.and_eq_true] at hf
    exact ⟨h.1.cut hn hf.1, Oks.cut hn h.2 hf.2⟩
  | [], _ :: _, h, _ => h.elim
  | _ :: _, [], h, _ => h.elim
theorem Gok.cut {r : List Own} (hn : os.length = n) {g : Bool} {xs : List AC} {v : Value} (h : Gok E (os ++ r) w g xs v) (hf : xs.all (AC.fits n m) = true) : Gok (E.cut n m) os w g xs v := by
  cases g with
  | true => obtain ⟨vs, h1, h2⟩ := h; exact ⟨vs, h1, h2.cut hn hf⟩
  | false => exact Oks.cut hn (show Oks _ _ _ xs [v] from h) hf
theorem Toks.cut {r : List Own} (hn : os.length = n) : ∀ {ys : List (Bool × List AC)} {vs : List Value}, Toks E (os ++ r) w ys vs → (ys.all fun y => y.2.all (AC.fits n m)) = true → Toks (E.cut n m) os w ys vs
  | [], [], _, _ => trivial
  | x :: xs, v :: vs, h, hf => by
    simp only [List.all_cons, Bool.and_eq_true] at hf
    exact ⟨h.1.cut hn hf.1, Toks.cut hn h.2 hf.2⟩
  | [], _ :: _, h, _ => h.elim
  | _ :: _, [], h, _ => h.elim
theorem AV.ok.cut {r : List Own} (hn : os.length = n) {x : AV} {v : Value} (h : x.ok E (os ++ r) w v) (hf : x.fits n m = true) : x.ok (E.cut n m) os w v := by
  cases x with
  | any => trivial
  | c g xs => exact Gok.cut hn h hf
  | ptr xs =>
    obtain ⟨b, o, vs, h1, h2, h3, h4, h5⟩ := h
    exact ⟨b, o, vs, h1, h2, fun hm => h3 (cut_M hm), h4, h5.cut hn hf⟩
  | bptr k off =>
    obtain ⟨p, h1, h2⟩ := h
    refine ⟨p, ?_, h2⟩
    simp only [Env.cut]
    rw [List.getElem?_take, if_pos (by simpa [AV.fits] using hf)]
    exact h1
  | eptr k i j off =>
    obtain ⟨o, p, h1, h2, h3, h4⟩ := h
    have hk : k < n := by simpa [AV.fits] using hf
    refine ⟨o, p, ?_, ?_, h3, h4⟩
    · rwa [List.getElem?_append_left (by omega)] at h1
    · simp only [Env.cut]
      rw [List.getElem?_take, if_pos hk]
      exact h2
  | tup ys =>
    obtain ⟨vs, h1, h2⟩ := h
    exact ⟨vs, h1, h2.cut hn hf⟩
end
theorem frLe_get {n m : Nat} : ∀ {xs ys : List AV}, FrLe n m xs ys → xs.length = ys.length ∧ ∀ (t : Nat) (y : AV), ys[t]? = some y → y = .any ∨ (xs[t]? = some y ∧ y.fits n m = true)
  | [], [], _ => ⟨rfl, fun t y h => by simp at h⟩
  | x :: xs, y :: ys, h => by
    obtain ⟨h1, h2⟩ := frLe_get h.2
    refine ⟨by simp [h1], fun t z hz => ?_⟩
    cases t with
    | zero =>
      simp at hz
      subst hz
      rcases h.1 with h' | ⟨h', h''⟩
      · exact Or.inl h'
      · exact Or.inr ⟨by simp [h'], h''⟩
    | succ t => simpa using h2 t z (by simpa using hz)
  | [], _ :: _, h => h.elim
  | _ :: _, [], h => h.elim
theorem Rel.weak {B : Nat} {Xs : List Nat} {G : Org} {w0 : World} {st st' : St} {E : Env} {a : Act} {w : World} (h : Rel B Xs G w0 st E a w) (hle : StLe st st') (hG1 : G.os.length ≤ st'.owns.length) (hG2 : G.E.bm.length ≤ st'.boxes.length) : ∃ E', Rel B Xs G w0 st' E' a w := by
  obtain ⟨h1, ⟨r1, h2⟩, ⟨r2, h3⟩, h4⟩ := hle
  obtain ⟨hl, hf⟩ := frLe_get h1
  obtain ⟨fr, os, bs⟩ := st
  obtain ⟨fr', os', bs'⟩ := st'
  simp only at h2 h3 h1 hl hf h4
  subst h2 h3
  have hol := h.olen
  have hbl := h.blen
  simp only [List.length_append] at hol hbl
  refine ⟨E.cut os'.length bs'.length, ?_⟩
  exact
    { eb := h.eb
      ex := h.ex
      sim := { base := h.sim.base, size := h.sim.size, blk := h.sim.blk, old := fun b hb hm => h.sim.old b hb (cut_M hm),
               own := fun k o p g1 g2 => by
                 obtain ⟨o', p', q1, q2, q3⟩ := h.sim.own k o p g1 g2
                 have hk : k < os'.length := Nat.lt_of_lt_of_le (List.getElem?_eq_some_iff.1 g1).1 hG1
                 refine ⟨o', p', ?_, ?_, q3⟩
                 · simp only at q1 ⊢
                   rwa [List.getElem?_append_left hk] at q1
                 · simp only [Env.cut]
                   rw [List.getElem?_take, if_pos hk]; exact q2
               box := fun k p g => by
                 have hk : k < bs'.length := Nat.lt_of_lt_of_le (List.getElem?_eq_some_iff.1 g).1 hG2
                 simp only [Env.cut]
                 rw [List.getElem?_take, if_pos hk]; exact h.sim.box k p g }
      defers := h.defers
      size := by rw [h.size]; exact hl
      fr := fun t y hy => by
        rcases hf t y hy with rfl | ⟨h5, h6⟩
        · trivial
        · exact (h.fr t y h5).cut rfl h6
      olen := by simp only [Env.cut, List.length_take]; omega
      own := fun k o p g1 g2 => by
        have hk : k < os'.length := (List.getElem?_eq_some_iff.1 g1).1
        simp only [Env.cut] at g2
        rw [List.getElem?_take, if_pos hk] at g2
        obtain ⟨cs, h5, h6, h7, h8⟩ := h.own k o p (by simp only; rw [List.getElem?_append_left hk]; exact g1) g2
        exact ⟨cs, h5, h6, h7, fun b hb => ⟨fun hm => (h8 b hb).1 (cut_M hm), (h8 b hb).2⟩⟩
      blen := by simp only [Env.cut, List.length_take]; omega
      box := fun k xs p g1 g2 => by
        have hk : k < bs'.length := (List.getElem?_eq_some_iff.1 g1).1
        simp only [Env.cut] at g2
        rw [List.getElem?_take, if_pos hk] at g2
        obtain ⟨h5, vs, h6, h7⟩ := h.box k xs p (by simp only; rw [List.getElem?_append_left hk]; exact g1) g2
        exact ⟨h5, vs, h6, h7.cut rfl (h4 xs (List.mem_of_getElem? g1))⟩
      nodup := by
        have := h.nodup
        unfold Env.M at this ⊢
        rw [List.nodup_append] at this ⊢
        refine ⟨this.1.sublist (by simp only [Env.cut]; exact (List.take_sublist _ _).map _), this.2.1.sublist (by
          simp only [Env.cut]
          have e := congrArg (List.flatMap (fun p : Value × List Nat => p.1.ownBlock.toList)) (List.take_append_drop os'.length E.om)
          rw [List.flatMap_append] at e
          rw [← e]
          exact List.sublist_append_left _ _), fun x hx y hy => ?_⟩
        refine this.2.2 x ?_ y ?_
        · exact ((List.take_sublist bs'.length E.bm).map _).subset hx
        · obtain ⟨p, hp, hpy⟩ := List.mem_flatMap.1 hy
          exact List.mem_flatMap.2 ⟨p, List.mem_of_mem_take hp, hpy⟩
      below := h.below
      base := h.base }
theorem awp_weakN {c : IC} {st' : St} (hle : StLe st st') (h1 : lo.1 ≤ st'.owns.length) (h2 : lo.2 ≤ st'.boxes.length) (h : AWPn lo P c Q st') : AWPn lo P c Q st := fun code hc B Xs G w0 hG E a w hR => by
  obtain ⟨E', hR'⟩ := hR.weak hle (Nat.le_trans hG.1 h1) (Nat.le_trans hG.2 h2)
  exact h code hc B Xs G w0 hG E' a w hR'
theorem awp_weak {c : IC} {st' : St} (hle : StLe st st') (h : AWP P c Q st') : AWP P c Q st := awp_weakN hle (Nat.zero_le _) (Nat.zero_le _) h

/-! ### Loops -/
theorem wp_loop_n {P : Program} {Q : Exit → Act → World → Prop} {a : Act} {w : World} {c : Code} (I : Nat → Act → World → Prop) (n : Nat) (h₀ : I n a w)
    (round : ∀ n a w, I n a w → c.wp P (Exit.then (fun a' w' => ∃ m, m < n ∧ I m a' w') Q) a w) : (Code.loop c).wp P Q a w := by
  intro b k cs
  have key : ∀ n a w, I n a w → ∃ e a' w', Q e a' w' ∧ Arrives P (lone (b.at a (.code c :: .inLoop c :: k)) cs w) b k cs e a' w' := by
    intro n
    induction n using Nat.strongRecOn with
    | _ n ih =>
      intro a w hI
      obtain ⟨e, a₁, w₁, hq, harr⟩ := round n a w hI b (.inLoop c :: k) cs
      cases e with
      | normal =>
        obtain ⟨m, hlt, hI₁⟩ := hq
        obtain ⟨e₂, a₂, w₂, hq₂, harr₂⟩ := ih m hlt a₁ w₁ hI₁
        exact ⟨e₂, a₂, w₂, hq₂, .of_steps (Steps.trans harr (.one step_inLoop)) harr₂⟩
      | exit id => exact ⟨_, a₁, w₁, hq, .pass (x := .inLoop c) rfl (fun _ _ => .inl (by simp)) harr⟩
      | goto l => exact ⟨_, a₁, w₁, hq, .pass (x := .inLoop c) rfl (fun _ _ => .inl (by simp)) harr⟩
      | ret => exact ⟨_, a₁, w₁, hq, .pass (x := .inLoop c) rfl (fun _ _ => .inl (by simp)) harr⟩
      | panic ch => exact ⟨_, a₁, w₁, hq, .pass (x := .inLoop c) rfl (fun _ _ => .inl (by simp)) harr⟩
      | outgrown => exact ⟨_, a₁, w₁, hq, .pass (x := .inLoop c) rfl (fun _ _ => .inl (by simp)) harr⟩
  obtain ⟨e, a', w', hq, harr⟩ := key n a w h₀
  exact ⟨e, a', w', hq, .of_steps (.one step_loop) harr⟩
/-- The end of a round: the head's form again, and the measure has gone down; or out of the loop. -/
def ARound {X : Type} (F : X → St) (inv : X → Prop) (μ : X → Nat) (x : X) (Q : Exit → St → Prop) : Exit → St → Prop
  | .normal, st => ∃ x', StLe st (F x') ∧ inv x' ∧ μ x' < μ x
  | e, st => Q e st
theorem awp_loopN {X : Type} {c : IC} (F : X → St) (inv : X → Prop) (μ : X → Nat) (x0 : X) (h0 : inv x0) (hlo : ∀ x, lo.1 ≤ (F x).owns.length ∧ lo.2 ≤ (F x).boxes.length) (hle : StLe st (F x0)) (round : ∀ x, inv x → AWPn lo P c (ARound F inv μ x Q) (F x)) : AWPn lo P (.loop c) Q st := fun code hc B Xs G w0 hG E a w hR => by
  cases code with
  | loop cc =>
    simp only [compC] at hc
    obtain ⟨c', hcc, he⟩ := Option.map_eq_some_iff.1 hc
    simp only [IC.loop.injEq] at he
    subst he
    obtain ⟨E', hR'⟩ := hR.weak hle (Nat.le_trans hG.1 (hlo _).1) (Nat.le_trans hG.2 (hlo _).2)
    refine wp_loop_n (fun n a w => ∃ x E, μ x = n ∧ inv x ∧ Rel B Xs G w0 (F x) E a w) (μ x0) ⟨x0, E', rfl, h0, hR'⟩ ?_
    rintro n a w ⟨x, E, rfl, hx, hR⟩
    refine wp_mono (round x hx cc hcc B Xs G w0 hG E a w hR) ?_
    rintro e a' w' ⟨st', E', h1, h2⟩
    cases e with
    | normal =>
      obtain ⟨x', h3, h4, h5⟩ := h2
      obtain ⟨E'', h6⟩ := h1.weak h3 (Nat.le_trans hG.1 (hlo _).1) (Nat.le_trans hG.2 (hlo _).2)
      exact ⟨μ x', h5, x', E'', rfl, h4, h6⟩
    | _ => exact ⟨st', E', h1, h2⟩
  | region id cops b => exact (comp_reg hc (by simp)).elim
  | block id x => simp [compC] at hc
  | cond c x y => simp only [compC] at hc; split at hc <;> simp at hc
  | seq x y => simp only [compC] at hc; split at hc <;> simp at hc
  | ret => simp [compC] at hc
  | exit id => simp [compC] at hc
  | skip => simp [compC] at hc
  | label l => simp [compC] at hc
  | rangeFunc => simp [compC] at hc
  | scope => simp [compC] at hc
  | goto => simp [compC] at hc
  | refuse => simp [compC] at hc
theorem awp_loop {X : Type} {c : IC} (F : X → St) (inv : X → Prop) (μ : X → Nat) (x0 : X) (h0 : inv x0) (hle : StLe st (F x0)) (round : ∀ x, inv x → AWP P c (ARound F inv μ x Q) (F x)) : AWP P (.loop c) Q st :=
  awp_loopN F inv μ x0 h0 (fun _ => ⟨Nat.zero_le _, Nat.zero_le _⟩) hle round
end

/-! ### Functions -/
def D.avN (b : Bool) (d : D) : AV := .c d.isAgg (d.acs b)
def D.av (d : D) : AV := .c d.isAgg (d.acs false)
/-- The state at the start; what the arguments hold counts as new (b), or not. -/
def stN (b : Bool) (n : Nat) (ds : List D) : St := ⟨ds.map (D.avN b) ++ List.replicate (n - ds.length) (.c false [.raw undef]), [], []⟩
def st0 (n : Nat) (ds : List D) : St := ⟨ds.map D.av ++ List.replicate (n - ds.length) (.c false [.raw undef]), [], []⟩
theorem av_ok {w : World} {F : List Nat} {d : D} {v : Value} {H : Nat} {b : Bool} (h : RdF w F d v) : (D.avN b d).ok ⟨H, [], [], if b then F else []⟩ [] w v := by
  unfold RdF at h
  show Gok _ _ _ d.isAgg (d.acs b) v
  unfold Gok
  have hn : ∀ x ∈ F, b = true → (⟨H, [], [], if b then F else []⟩ : Env).nw x := fun x hx e => by subst e; exact Or.inr hx
  cases hg : d.isAgg with
  | true =>
    rw [hg, if_pos rfl] at h
    obtain ⟨fp, cs, h1, h2, h3⟩ := h
    rw [if_pos rfl]
    exact ⟨cs, h1, oks_acs h2 (fun x hx => ⟨by simp [Env.M], hn x (h3 x hx)⟩)⟩
  | false =>
    rw [hg, if_neg (by simp)] at h
    obtain ⟨fp, h2, h3⟩ := h
    rw [if_neg (by simp)]
    exact oks_acs h2 (fun x hx => ⟨by simp [Env.M], hn x (h3 x hx)⟩)
theorem rdsF_get {w : World} {F : List Nat} : ∀ {ds : List D} {vs : List Value}, RdsF w F ds vs → ds.length = vs.length ∧ ∀ (t : Nat) (d : D), ds[t]? = some d → ∃ v, vs[t]? = some v ∧ RdF w F d v
  | [], [], _ => ⟨rfl, fun t d h => by simp at h⟩
  | d :: ds, v :: vs, h => by
    obtain ⟨h1, h2⟩ := rdsF_get h.2
    refine ⟨by simp [h1], fun t x hx => ?_⟩
    cases t with
    | zero => simp at hx; subst hx; exact ⟨v, rfl, h.1⟩
    | succ t => simpa using h2 t x (by simpa using hx)
  | [], _ :: _, h => h.elim
  | _ :: _, [], h => h.elim
theorem rd_rdF {w : World} {d : D} {v : Value} (h : Rd w d v) : ∃ F, RdF w F d v := by
  unfold Rd at h
  unfold RdF
  split at h
  · obtain ⟨fp, cs, h1, h2⟩ := h
    exact ⟨fp, by rw [if_pos (by assumption)]; exact ⟨fp, cs, h1, h2, fun b hb => hb⟩⟩
  · obtain ⟨fp, h2⟩ := h
    exact ⟨fp, by rw [if_neg (by assumption)]; exact ⟨fp, h2, fun b hb => hb⟩⟩
theorem rds_rdsF {w : World} : ∀ {ds : List D} {vs : List Value}, Rds w ds vs → ∃ F, RdsF w F ds vs
  | [], [], _ => ⟨[], trivial⟩
  | d :: ds, v :: vs, h => by
    obtain ⟨F1, h1⟩ := rd_rdF h.1
    obtain ⟨F2, h2⟩ := rds_rdsF h.2
    exact ⟨F1 ++ F2, h1.mono (fun b hb => List.mem_append_left _ hb), h2.mono (fun b hb => List.mem_append_right _ hb)⟩
  | [], _ :: _, h => h.elim
  | _ :: _, [], h => h.elim
theorem rel_start {w : World} {F : List Nat} {ds : List D} {vs : List Value} (b : Bool) (h : RdsF w F ds vs) (ht : TabP w) (n : Nat) : Rel w.heap.size (if b then F else []) ⟨⟨w.heap.size, [], [], if b then F else []⟩, [], w⟩ w (stN b n ds) ⟨w.heap.size, [], [], if b then F else []⟩ { tmps := vs.toArray ++ Array.replicate (n - vs.toArray.size) undef, defers := [] } w where
  eb := rfl
  ex := rfl
  sim := Sim.refl _ _ _
  defers := rfl
  size := by
    obtain ⟨hl, _⟩ := rdsF_get h
    simp [stN, hl]
  fr := by
    obtain ⟨hl, hg⟩ := rdsF_get h
    intro t x hx
    simp only [stN] at hx
    rw [List.getElem?_append] at hx
    simp only [Array.getD_eq_getD_getElem?]
    split at hx
    · next ht =>
      rw [List.getElem?_map] at hx
      obtain ⟨d, hd, rfl⟩ := Option.map_eq_some_iff.1 hx
      obtain ⟨v, hv, hr⟩ := hg t d hd
      rw [Array.getElem?_append_left (by simp at ht ⊢; omega)]
      simp only [List.getElem?_toArray, hv, Option.getD_some]
      exact av_ok hr
    · next ht =>
      rw [List.getElem?_replicate] at hx
      split at hx
      · next hlt =>
        injection hx with hx
        subst hx
        simp only [List.length_map] at ht hlt
        rw [Array.getElem?_append_right (by simp; omega), Array.getElem?_replicate]
        simp only [List.size_toArray, ← hl]
        rw [if_pos hlt]
        exact ⟨rfl, trivial⟩
      · cases hx
  olen := rfl
  own := fun k o p h1 h2 => by simp [stN] at h1
  blen := rfl
  box := fun k xs p h1 h2 => by simp [stN] at h1
  nodup := by simp [Env.M]
  below := BelowT.start ht
  base := Nat.le_refl _
/-- What a function's code must leave. -/
def AEnd (Fin : St → Prop) : Exit → St → Prop
  | .normal, st => Fin st
  | .ret, st => Fin st
  | _, _ => False
theorem calls_awpN {P : Program} {f : Nat} {fn : Func} {code : Code} {ic : IC} {ds : List D} {Fin : St → Prop} {post : List Nat → World → Ending → World → Prop} (b : Bool) (hf : P.funcs[f]? = some fn) (hb : fn.body = some code) (hc : compC P code = some ic)
    (h : AWP P ic (AEnd Fin) (stN b fn.ntmps ds))
    (hfin : ∀ (F : List Nat) (G : Org) (w w' : World) (st : St) (E : Env) (a : Act), Rel w.heap.size (if b then F else []) G w st E a w' → Fin st → ∃ v, (results fn a.tmps).run P w' = .ok v w' ∧ post F w (.returned v) w') :
    ∀ (w : World) (F : List Nat) (vs : List Value), RdsF w F ds vs → TabP w → Calls P f vs.toArray w (post F w) := by
  intro w F vs hr ht
  refine calls_of_wp hf hb ?_
  have := h code hc w.heap.size _ _ w ⟨Nat.le_refl _, Nat.le_refl _⟩ _ _ w (rel_start b hr ht fn.ntmps)
  refine wp_mono this ?_
  rintro e a' w' ⟨st', E', h1, h2⟩
  cases e with
  | normal =>
    obtain ⟨v, h3, h4⟩ := hfin F _ w w' st' E' a' h1 h2
    exact ⟨h1.defers, v, h3, h4⟩
  | ret =>
    obtain ⟨v, h3, h4⟩ := hfin F _ w w' st' E' a' h1 h2
    exact ⟨h1.defers, v, h3, h4⟩
  | _ => exact h2.elim
theorem calls_awp {P : Program} {f : Nat} {fn : Func} {code : Code} {ic : IC} {ds : List D} {Fin : St → Prop} {post : World → Ending → World → Prop} (hf : P.funcs[f]? = some fn) (hb : fn.body = some code) (hc : compC P code = some ic)
    (h : AWP P ic (AEnd Fin) (st0 fn.ntmps ds))
    (hfin : ∀ (G : Org) (w w' : World) (st : St) (E : Env) (a : Act), Rel w.heap.size [] G w st E a w' → Fin st → ∃ v, (results fn a.tmps).run P w' = .ok v w' ∧ post w (.returned v) w') :
    ∀ (w : World) (vs : List Value), Rds w ds vs → TabP w → Calls P f vs.toArray w (post w) := by
  intro w vs hr ht
  obtain ⟨F, hF⟩ := rds_rdsF hr
  exact calls_awpN (post := fun _ => post) false hf hb hc h (fun F G w w' st E a hR => hfin G w w' st E a hR) w F vs hF ht
/-- Lists whose elements have no blocks of their own. -/
def FlatL (l : List D) : Prop := ∀ (w : World) (f : List Nat) (cs : List Value), Rs w l f cs → f = []
def AcFits (os : List Own) : AC → AC → Prop
  | _, .any => True
  | .raw v, .raw u => v = u
  | .sl n l, .sl _ l' => n = true ∧ l = l'
  | .own k i, .sl _ l => ∃ o, os[k]? = some o ∧ o.ver = i ∧ o.l = l ∧ (o.nw = true ∨ FlatL l)
  | .raw v, .sl _ l => v = .slice none 0 0 ∧ l = []
  | _, _ => False
def AcsFits (os : List Own) : List AC → List AC → Prop
  | [], [] => True
  | x :: xs, y :: ys => AcFits os x y ∧ AcsFits os xs ys
  | _, _ => False
section
variable {B : Nat} {Xs : List Nat} {G : Org} {w0 : World} {st : St} {E E' : Env} {a : Act} {w : World}
/-- An environment for what a call hands back. -/
def OutEnv (B : Nat) (Xs : List Nat) (E' : Env) : Prop := ∀ b, (B ≤ b ∨ b ∈ Xs) → b ∉ E'.M ∧ E'.nw b
theorem out_new (B : Nat) : OutEnv B [] (newEnv B) := fun b hb => by
  have : B ≤ b := by simpa using hb
  exact ⟨newEnv_M.2 this, Or.inl this⟩
theorem out_old (B : Nat) (F : List Nat) : OutEnv B F (oldEnv B F) := fun b hb => ⟨oldEnv_M.2 hb, hb⟩
theorem nw_iff (h : Rel B Xs G w0 st E a w) {b : Nat} (hb : E.nw b) : B ≤ b ∨ b ∈ Xs := by
  unfold Env.nw at hb
  rwa [h.eb, h.ex] at hb
theorem acFits_ok (h : Rel B Xs G w0 st E a w) (hE : OutEnv B Xs E') {x y : AC} {v : Value} (hf : AcFits st.owns x y) (hx : x.ok E st.owns w v) : y.ok E' [] w v := by
  cases y with
  | any => trivial
  | raw u => cases x with
    | raw v' => obtain rfl := hf; exact hx
    | _ => exact hf.elim
  | sl n l => cases x with
    | sl n' l' =>
      obtain ⟨rfl, rfl⟩ := hf
      obtain ⟨fp, h1, h2⟩ := hx
      refine ⟨fp, h1, fun b hb => ?_⟩
      have hB := hE b (nw_iff h ((h2 b hb).2 rfl))
      exact ⟨hB.1, fun _ => hB.2⟩
    | own k i =>
      obtain ⟨o, h1, h2, rfl, h3⟩ := hf
      obtain ⟨_, o', p, g1, g2, g3, g4⟩ := hx
      rw [h1] at g1
      injection g1 with g1
      subst g1
      obtain rfl := g4 h2
      obtain ⟨cs, h5, h6, h7, h8⟩ := h.own k o p h1 g2
      refine ⟨_, Sl.of_at h5 h6, fun b hb => ?_⟩
      have hB : E.nw b := by
        rcases List.mem_append.1 hb with hb | hb
        · exact h.nw_of (OwnsAt.lt h5 b (by simpa using hb)).1
        · rcases h3 with h3 | h3
          · exact (h8 b hb).2 h3
          · rw [h3 _ _ _ h6] at hb; simp at hb
      have hB := hE b (nw_iff h hB)
      exact ⟨hB.1, fun _ => hB.2⟩
    | raw v' =>
      obtain ⟨rfl, rfl⟩ := hf
      obtain rfl := hx
      refine ⟨[], ?_, fun b hb => by simp at hb⟩
      unfold Sl
      rw [R]
      exact ⟨none, 0, rfl, Nat.le_refl _, Nat.zero_le _, Or.inl ⟨rfl, rfl⟩⟩
    | any => exact hf.elim
    | osub _ _ _ _ => exact hf.elim
    | cl _ _ => exact hf.elim
  | own k i => cases x <;> exact hf.elim
  | osub k i pa pb => cases x <;> exact hf.elim
  | cl f caps => cases x <;> exact hf.elim
theorem acsFits_ok (h : Rel B Xs G w0 st E a w) (hE : OutEnv B Xs E') : ∀ {xs ys : List AC} {vs : List Value}, AcsFits st.owns xs ys → Oks E st.owns w xs vs → Oks E' [] w ys vs
  | [], [], [], _, _ => trivial
  | x :: xs, y :: ys, v :: vs, hf, hx => ⟨acFits_ok h hE hf.1 hx.1, acsFits_ok h hE hf.2 hx.2⟩
  | [], [], _ :: _, _, hx => hx.elim
  | _ :: _, _ :: _, [], _, hx => hx.elim
  | [], _ :: _, _, hf, _ => hf.elim
  | _ :: _, [], _, hf, _ => hf.elim
theorem gFits_ok (h : Rel B Xs G w0 st E a w) (hE : OutEnv B Xs E') {g : Bool} {xs ys : List AC} {v : Value} (hf : AcsFits st.owns xs ys) (hx : Gok E st.owns w g xs v) : Gok E' [] w g ys v := by
  cases g with
  | true => obtain ⟨vs, h1, h2⟩ := hx; exact ⟨vs, h1, acsFits_ok h hE hf h2⟩
  | false => exact acsFits_ok h hE hf (show Oks _ _ _ xs [v] from hx)
end
theorem acsFits_len {os : List Own} : ∀ {xs ys : List AC}, AcsFits os xs ys → xs.length = ys.length
  | [], [], _ => rfl
  | _ :: xs, _ :: ys, h => by rw [List.length_cons, List.length_cons, acsFits_len h.2]
  | [], _ :: _, h => h.elim
  | _ :: _, [], h => h.elim
/-- A result in a slot. -/
def FinT (t : Nat) (g : Bool) (ys : List AC) (st : St) : Prop := ∃ xs, st.fr.getD t .any = .c g xs ∧ AcsFits st.owns xs ys
/-- A struct's result, in a box. -/
def FinC (t : Nat) (ys : List AC) (st : St) : Prop := ∃ k xs, st.fr.getD t .any = .bptr k 0 ∧ st.boxes[k]? = some xs ∧ AcsFits st.owns xs ys
/-- One result, in a slot or in a box. -/
def FinP (r : ResultVar) (g : Bool) (ys : List AC) (st : St) : Prop := match r with
  | .tmp t => FinT t g ys st
  | .cell t _ => FinC t ys st
def structOf (P : Program) (ty : TypeId) (n : Nat) : Bool := match P.info? ty, P.underlying ty with
  | some i, some d => i.size == n && isAggD d
  | _, _ => false
/-- The kind of a result is that of its place. -/
def placeOk (P : Program) (r : ResultVar) (g : Bool) (n : Nat) : Bool := match r with
  | .tmp _ => true
  | .cell _ ty => g && structOf P ty n
def placeVal (r : ResultVar) (tmps : Array Value) : Sem Value := match r with
  | .tmp t => pure (tmps.getD t undef)
  | .cell a t => do loadVar t (← asAddr (tmps.getD a undef))
section
variable {P : Program} {f : Nat} {fn : Func} {code : Code} {ic : IC} {ds : List D}
theorem slot_ok {B : Nat} {Xs : List Nat} {G : Org} {w0 : World} {st : St} {E : Env} {a : Act} {w : World} (h : Rel B Xs G w0 st E a w) {t : Nat} {x : AV} (hx : st.fr.getD t .any = x) : x.ok E st.owns w (a.tmps.getD t undef) := by
  have := ev_ok h (.tmp t)
  simp only [opd, St.ev, Act.eval] at this
  rwa [hx] at this
theorem finP_ok {B : Nat} {Xs : List Nat} {G : Org} {w0 : World} {st : St} {E E' : Env} {a : Act} {w : World} (h : Rel B Xs G w0 st E a w) (hE : OutEnv B Xs E') {r : ResultVar} {g : Bool} {ys : List AC} (hp : placeOk P r g ys.length = true) (hf : FinP r g ys st) :
    ∃ v, (placeVal r a.tmps).run P w = .ok v w ∧ Gok E' [] w g ys v := by
  cases r with
  | tmp t =>
    obtain ⟨xs, h1, h2⟩ := hf
    exact ⟨_, rfl, gFits_ok h hE h2 (slot_ok h h1)⟩
  | cell t ty =>
    obtain ⟨k, xs, h1, h2, h3⟩ := hf
    simp only [placeOk, Bool.and_eq_true, structOf] at hp
    obtain ⟨rfl, hp⟩ := hp
    split at hp
    · next i d hi hd =>
      simp only [Bool.and_eq_true, beq_iff_eq] at hp
      obtain ⟨p, g1, g2⟩ := slot_ok h h1
      obtain ⟨_, vs, h4, h5⟩ := h.box k xs p h2 g1
      have hlen : vs.length = i.size := by rw [← h5.len, acsFits_len h3, hp.1]
      refine ⟨.agg vs.toArray, ?_, vs, rfl, acsFits_ok h hE h3 h5⟩
      simp only [placeVal]
      rw [g2]
      have := run_loadVar_row (P := P) w p.1 p.2 ty vs.toArray (0, 0) d h4 hd (by have := hp.2; cases d <;> simp_all [isAggD]) (by rw [hi]; simp [hlen])
      simp [asAddr, this]
    · cases hp
theorem results_one {r : ResultVar} (hr : fn.results = #[r]) (tmps : Array Value) {w : World} {v : Value} (h : (placeVal r tmps).run P w = .ok v w) : (results fn tmps).run P w = .ok v w := by
  cases r with
  | tmp t => simp [placeVal] at h; simp [results, hr, h]
  | cell t ty => simp [placeVal] at h; simp [results, hr, h]
theorem results_two {r q : ResultVar} (hr : fn.results = #[r, q]) (tmps : Array Value) {w : World} {v u : Value} (h : (placeVal r tmps).run P w = .ok v w) (h2 : (placeVal q tmps).run P w = .ok u w) : (results fn tmps).run P w = .ok (.tuple #[v, u]) w := by
  have e : (results fn tmps).run P w = (placeVal r tmps >>= fun v => placeVal q tmps >>= fun u => pure (.tuple #[v, u]) : Sem Value).run P w := by
    have a1 : ∀ (x : Result Addr) (f : Addr → World → Result Value) (g : Value → World → Result Value), (x.andThen f).andThen g = x.andThen fun a w => (f a w).andThen g := by
      intro x f g; cases x <;> rfl
    cases r <;> cases q <;> simp [results, hr, placeVal, a1]
  rw [e]
  simp [h, h2]
theorem calls_one {t : Nat} {g : Bool} {ys : List AC} (hf : P.funcs[f]? = some fn) (hb : fn.body = some code) (hr : fn.results = #[.tmp t]) (hc : compC P code = some ic)
    (h : AWP P ic (AEnd (FinT t g ys)) (st0 fn.ntmps ds)) : CallsTo P f ds (.c g ys) := by
  refine calls_awp (post := fun w e w' => CallPost (.c g ys) w e w') hf hb hc h ?_
  rintro G w w' st E a hR ⟨xs, h1, h2⟩
  refine ⟨_, results_tmp hr a.tmps P w', _, rfl, gFits_ok hR (out_new _) h2 (slot_ok hR h1), hR.below.out⟩
/-- A struct as the result. -/
theorem calls_cell {t : Nat} {ty : TypeId} {ys : List AC} (hf : P.funcs[f]? = some fn) (hb : fn.body = some code) (hr : fn.results = #[.cell t ty]) (hp : structOf P ty ys.length = true) (hc : compC P code = some ic)
    (h : AWP P ic (AEnd (FinC t ys)) (st0 fn.ntmps ds)) : CallsTo P f ds (.c true ys) := by
  refine calls_awp (post := fun w e w' => CallPost (.c true ys) w e w') hf hb hc h ?_
  rintro G w w' st E a hR hF
  obtain ⟨v, h1, h2⟩ := finP_ok (P := P) (r := .cell t ty) (g := true) hR (out_new _) (by simp [placeOk, hp]) hF
  exact ⟨v, results_one hr _ h1, v, rfl, h2, hR.below.out⟩
/-- Two results. -/
theorem calls_two {r q : ResultVar} {g g' : Bool} {ys zs : List AC} (hf : P.funcs[f]? = some fn) (hb : fn.body = some code) (hr : fn.results = #[r, q]) (hp : (placeOk P r g ys.length && placeOk P q g' zs.length) = true) (hc : compC P code = some ic)
    (h : AWP P ic (AEnd (fun st => FinP r g ys st ∧ FinP q g' zs st)) (st0 fn.ntmps ds)) : CallsTo P f ds (.tup [(g, ys), (g', zs)]) := by
  refine calls_awp (post := fun w e w' => CallPost (.tup [(g, ys), (g', zs)]) w e w') hf hb hc h ?_
  rintro G w w' st E a hR ⟨h1, h2⟩
  simp only [Bool.and_eq_true] at hp
  obtain ⟨v, h3, h4⟩ := finP_ok hR (out_new _) hp.1 h1
  obtain ⟨u, h5, h6⟩ := finP_ok hR (out_new _) hp.2 h2
  exact ⟨_, results_two hr _ h3 h5, _, rfl, ⟨[v, u], rfl, h4, h6, trivial⟩, hR.below.out⟩
theorem callsA_two {r q : ResultVar} {g g' : Bool} {ys zs : List AC} (hf : P.funcs[f]? = some fn) (hb : fn.body = some code) (hr : fn.results = #[r, q]) (hp : (placeOk P r g ys.length && placeOk P q g' zs.length) = true) (hc : compC P code = some ic)
    (h : AWP P ic (AEnd (fun st => FinP r g ys st ∧ FinP q g' zs st)) (stN true fn.ntmps ds)) : CallsToA P f ds (.tup [(g, ys), (g', zs)]) := by
  intro w F vs hF hr'
  refine calls_awpN (post := fun F w e w' => CallPostA (.tup [(g, ys), (g', zs)]) F w e w') true hf hb hc h ?_ w F vs hr'
  rintro F G w w' st E a hR ⟨h1, h2⟩
  simp only [Bool.and_eq_true] at hp
  obtain ⟨v, h3, h4⟩ := finP_ok hR (out_old _ F) hp.1 h1
  obtain ⟨u, h5, h6⟩ := finP_ok hR (out_old _ F) hp.2 h2
  exact ⟨_, results_two hr _ h3 h5, _, rfl, ⟨[v, u], rfl, h4, h6, trivial⟩, hR.below.out⟩
theorem callsA_one {r : ResultVar} {g : Bool} {ys : List AC} (hf : P.funcs[f]? = some fn) (hb : fn.body = some code) (hr : fn.results = #[r]) (hp : placeOk P r g ys.length = true) (hc : compC P code = some ic)
    (h : AWP P ic (AEnd (FinP r g ys)) (stN true fn.ntmps ds)) : CallsToA P f ds (.c g ys) := by
  intro w F vs hF hr'
  refine calls_awpN (post := fun F w e w' => CallPostA (.c g ys) F w e w') true hf hb hc h ?_ w F vs hr'
  rintro F G w w' st E a hR h1
  obtain ⟨v, h3, h4⟩ := finP_ok hR (out_old _ F) hp h1
  exact ⟨_, results_one hr _ h3, _, rfl, h4, hR.below.out⟩
/-- A slice of the call's own as the result. -/
def OwnAt (k i : Nat) (l : List D) (e s : Nat) (st : St) : Prop := ∃ o, st.owns[k]? = some o ∧ o.ver = i ∧ o.l = l ∧ o.e = e ∧ o.s = s ∧ (o.nw = true ∨ FlatL l)
def FinO (t : Nat) (l : List D) (e s : Nat) (st : St) : Prop := ∃ k i o, st.fr.getD t .any = .c false [.own k i] ∧ st.owns[k]? = some o ∧ o.ver = i ∧ o.l = l ∧ o.e = e ∧ o.s = s ∧ (o.nw = true ∨ FlatL l)
/-- The same, in a struct that holds nothing else. -/
def FinW (t : Nat) (l : List D) (e s : Nat) (st : St) : Prop := ∃ b k i, st.fr.getD t .any = .bptr b 0 ∧ st.boxes[b]? = some [.own k i] ∧ OwnAt k i l e s st
theorem ownAt_ok {G : Org} {w w' : World} {st : St} {E : Env} {a : Act} (hR : Rel w.heap.size [] G w st E a w') {k i : Nat} {l : List D} {e s : Nat} {v : Value} (hv : (AC.own k i).ok E st.owns w' v) (h : OwnAt k i l e s st) :
    ∃ cs f, OwnsAt w' w.heap.size e s v l.length cs ∧ Rs w' l f cs ∧ ∀ b ∈ f, some b ≠ v.ownBlock ∧ w.heap.size ≤ b := by
  obtain ⟨o, h2, h3, rfl, rfl, rfl, h4⟩ := h
  obtain ⟨_, o', p, g1, g2, g3, g4⟩ := hv
  rw [h2] at g1
  injection g1 with g1
  subst g1
  obtain ⟨cs, h5, h6, h7, h8⟩ := hR.own k o p h2 g2
  rw [g4 h3]
  refine ⟨cs, p.2, h5, h6, fun b hb => ⟨fun e => ?_, ?_⟩⟩
  · exact (h8 b hb).1 (mem_M.2 (Or.inr ⟨k, p, g2, e.symm⟩))
  · rcases h4 with h4 | h4
    · simpa using nw_iff hR ((h8 b hb).2 h4)
    · rw [h4 _ _ _ h6] at hb; simp at hb
theorem calls_own {t : Nat} {l : List D} {e s : Nat} (hf : P.funcs[f]? = some fn) (hb : fn.body = some code) (hr : fn.results = #[.tmp t]) (hc : compC P code = some ic)
    (h : AWP P ic (AEnd (FinO t l e s)) (st0 fn.ntmps ds)) : CallsOwn P f ds l e s := by
  refine calls_awp (post := fun w e' w' => OwnPost false l e s w e' w') hf hb hc h ?_
  rintro G w w' st E a hR ⟨k, i, o, h1, h2⟩
  obtain ⟨hv, _⟩ := slot_ok hR h1
  obtain ⟨cs, f', h3, h4, h5⟩ := ownAt_ok hR hv ⟨o, h2⟩
  exact ⟨_, results_tmp hr a.tmps P w', _, cs, f', rfl, h3, h4, h5, hR.below.out⟩
/-- Several results, some of them slices of the call's own (pk: their numbers at the end). -/
def AcFitsX (os : List Own) (pk : List Nat) : AC → AC → Prop
  | _, .any => True
  | .raw v, .raw u => v = u
  | .sl n l, .sl m l' => n = true ∧ m = true ∧ l = l'
  | .own k i, .sl m l => m = true ∧ k ∉ pk ∧ ∃ o, os[k]? = some o ∧ o.ver = i ∧ o.l = l ∧ (o.nw = true ∨ FlatL l)
  | .own k i, .own j z => pk[j]? = some k ∧ z = 0 ∧ ∃ o, os[k]? = some o ∧ o.ver = i
  | _, _ => False
def AcsFitsX (os : List Own) (pk : List Nat) : List AC → List AC → Prop
  | [], [] => True
  | x :: xs, y :: ys => AcFitsX os pk x y ∧ AcsFitsX os pk xs ys
  | _, _ => False
def OutsOk (os : List Own) : List Nat → List Own → Prop
  | [], [] => True
  | k :: pk, o' :: os' => (∃ o, os[k]? = some o ∧ o' = ⟨o.l, o.e, o.s, 0, true⟩ ∧ (o.nw = true ∨ FlatL o.l)) ∧ OutsOk os pk os'
  | _, _ => False
def FinPX (pk : List Nat) (r : ResultVar) (g : Bool) (ys : List AC) (st : St) : Prop := match r with
  | .tmp t => ∃ xs, st.fr.getD t .any = .c g xs ∧ AcsFitsX st.owns pk xs ys
  | .cell t _ => ∃ k xs, st.fr.getD t .any = .bptr k 0 ∧ st.boxes[k]? = some xs ∧ AcsFitsX st.owns pk xs ys
theorem acsFitsX_len {os : List Own} {pk : List Nat} : ∀ {xs ys : List AC}, AcsFitsX os pk xs ys → xs.length = ys.length
  | [], [], _ => rfl
  | _ :: xs, _ :: ys, h => by rw [List.length_cons, List.length_cons, acsFitsX_len h.2]
  | [], _ :: _, h => h.elim
  | _ :: _, [], h => h.elim
theorem outs_get {os : List Own} : ∀ {pk : List Nat} {os' : List Own}, OutsOk os pk os' → pk.length = os'.length ∧ ∀ (j k : Nat) (o' : Own), pk[j]? = some k → os'[j]? = some o' → ∃ o, os[k]? = some o ∧ o' = ⟨o.l, o.e, o.s, 0, true⟩ ∧ (o.nw = true ∨ FlatL o.l)
  | [], [], _ => ⟨rfl, fun j k o' h => by simp at h⟩
  | k :: pk, o' :: os', h => by
    obtain ⟨h1, h2⟩ := outs_get h.2
    refine ⟨by simp [h1], fun j k' o'' g1 g2 => ?_⟩
    cases j with
    | zero => simp at g1 g2; subst g1 g2; exact h.1
    | succ j => exact h2 j k' o'' (by simpa using g1) (by simpa using g2)
  | [], _ :: _, h => h.elim
  | _ :: _, [], h => h.elim
section
variable {B : Nat} {G : Org} {w0 : World} {st : St} {E : Env} {a : Act} {w : World} {pk : List Nat} {os' : List Own}
def pkOm (E : Env) (pk : List Nat) : List (Value × List Nat) := pk.map fun k => E.om.getD k (undef, [])
theorem pkOm_get {j k : Nat} (h : pk[j]? = some k) : (pkOm E pk)[j]? = some (E.om.getD k (undef, [])) := by simp [pkOm, h]
theorem pk_block (h : Rel B [] G w0 st E a w) (ho : OutsOk st.owns pk os') {b : Nat} (hb : b ∈ (pkOm E pk).flatMap fun q => q.1.ownBlock.toList) : ∃ k ∈ pk, ∃ p, E.om[k]? = some p ∧ p.1.ownBlock = some b := by
  obtain ⟨q, hq, hqb⟩ := List.mem_flatMap.1 hb
  obtain ⟨k, hk, rfl⟩ := List.mem_map.1 hq
  obtain ⟨j, hj⟩ := List.mem_iff_getElem?.1 hk
  obtain ⟨h1, h2⟩ := outs_get ho
  have hj' : j < os'.length := by rw [← h1]; exact (List.getElem?_eq_some_iff.1 hj).1
  obtain ⟨o, g1, _⟩ := h2 j k _ hj (List.getElem?_eq_getElem hj')
  have hke : k < E.om.length := by rw [h.olen]; exact (List.getElem?_eq_some_iff.1 g1).1
  exact ⟨k, hk, E.om[k], List.getElem?_eq_getElem hke, by rw [List.getD_eq_getElem?_getD, List.getElem?_eq_getElem hke] at hqb; simpa using hqb⟩
theorem blocks_inj (h : Rel B [] G w0 st E a w) {i j : Nat} {p q : Value × List Nat} {b : Nat} (hi : E.om[i]? = some p) (hj : E.om[j]? = some q) (hp : p.1.ownBlock = some b) (hq : q.1.ownBlock = some b) : i = j := by
  have hn := h.nodup
  unfold Env.M at hn
  rw [List.nodup_append] at hn
  have : ∀ (L : List (Value × List Nat)) (i j : Nat) (p q : Value × List Nat), (L.flatMap (fun p => p.1.ownBlock.toList)).Nodup → L[i]? = some p → L[j]? = some q → p.1.ownBlock = some b → q.1.ownBlock = some b → i = j := by
    intro L
    induction L with
    | nil => intro i j p q _ hi; simp at hi
    | cons z L ih =>
      intro i j p q hn hi hj hpb hqb
      rw [List.flatMap_cons, List.nodup_append] at hn
      cases i with
      | zero =>
        cases j with
        | zero => rfl
        | succ j =>
          simp at hi hj
          subst hi
          exact absurd rfl (hn.2.2 b (by simp [hpb]) b (List.mem_flatMap.2 ⟨q, List.mem_of_getElem? hj, by simp [hqb]⟩))
      | succ i =>
        cases j with
        | zero =>
          simp at hi hj
          subst hj
          exact absurd rfl (hn.2.2 b (by simp [hqb]) b (List.mem_flatMap.2 ⟨p, List.mem_of_getElem? hi, by simp [hpb]⟩))
        | succ j =>
          simp at hi hj
          rw [ih i j p q hn.2.1 hi hj hpb hqb]
  exact this E.om i j p q hn.2.1 hi hj hp hq
theorem ownsOk_pk (h : Rel B [] G w0 st E a w) (ho : OutsOk st.owns pk os') (hnd : pk.Nodup) : OwnsOk B w (pkOm E pk) os' := by
  obtain ⟨h1, h2⟩ := outs_get ho
  refine ⟨by simp [pkOm, h1], fun j o' p g1 g2 => ?_, ?_⟩
  · have hj : j < pk.length := by rw [h1]; exact (List.getElem?_eq_some_iff.1 g1).1
    have hk := List.getElem?_eq_getElem hj
    obtain ⟨o, g3, rfl, g4⟩ := h2 j _ o' hk g1
    have hke : pk[j] < E.om.length := by rw [h.olen]; exact (List.getElem?_eq_some_iff.1 g3).1
    rw [pkOm_get hk, List.getD_eq_getElem?_getD, List.getElem?_eq_getElem hke] at g2
    simp only [Option.getD_some, Option.some.injEq] at g2
    subst g2
    obtain ⟨cs, h5, h6, h7, h8⟩ := h.own _ o _ g3 (List.getElem?_eq_getElem hke)
    refine ⟨cs, h5, h6, h7, fun b hb => ⟨?_, fun hm => ?_⟩⟩
    · rcases g4 with g4 | g4
      · simpa using nw_iff h ((h8 b hb).2 g4)
      · rw [g4 _ _ _ h6] at hb; simp at hb
    · obtain ⟨k, _, p, g5, g6⟩ := pk_block h ho hm
      exact (h8 b hb).1 (mem_M.2 (Or.inr ⟨k, p, g5, g6⟩))
  · have : ∀ (pk : List Nat) (os' : List Own), OutsOk st.owns pk os' → pk.Nodup → ((pkOm E pk).flatMap fun q => q.1.ownBlock.toList).Nodup := by
      intro pk
      induction pk with
      | nil => intro os' _ _; exact List.nodup_nil
      | cons k pk ih =>
        intro os' ho hnd
        match os', ho with
        | o' :: os', ho =>
          rw [List.nodup_cons] at hnd
          obtain ⟨o, g1, _⟩ := ho.1
          have hke : k < E.om.length := by rw [h.olen]; exact (List.getElem?_eq_some_iff.1 g1).1
          show (List.flatMap _ (E.om.getD k (undef, []) :: pkOm E pk)).Nodup
          rw [List.flatMap_cons, List.nodup_append]
          refine ⟨by cases (E.om.getD k (undef, [])).1.ownBlock <;> simp, ih os' ho.2 hnd.2, fun x hx y hy e => ?_⟩
          subst e
          obtain ⟨k', hk', p, g5, g6⟩ := pk_block h ho.2 hy
          rw [List.getD_eq_getElem?_getD, List.getElem?_eq_getElem hke] at hx
          exact hnd.1 (blocks_inj h (List.getElem?_eq_getElem hke) g5 (by simpa using hx) g6 ▸ hk')
    exact this pk os' ho hnd
theorem acFitsX_ok (h : Rel B [] G w0 st E a w) (ho : OutsOk st.owns pk os') {x y : AC} {v : Value} (hf : AcFitsX st.owns pk x y) (hx : x.ok E st.owns w v) : y.ok ⟨B, pkOm E pk, [], []⟩ os' w v := by
  have hnew : ∀ b, (B ≤ b) → (∀ k ∈ pk, ∀ p, E.om[k]? = some p → p.1.ownBlock ≠ some b) → b ∉ (⟨B, pkOm E pk, [], []⟩ : Env).M ∧ (true = true → (⟨B, pkOm E pk, [], []⟩ : Env).nw b) := fun b hB hk => ⟨fun hm => by
    simp only [Env.M, List.map_nil, List.nil_append] at hm
    obtain ⟨k, hk1, p, g1, g2⟩ := pk_block h ho hm
    exact hk k hk1 p g1 g2, fun _ => Or.inl hB⟩
  cases y with
  | any => trivial
  | raw u => cases x with
    | raw v' => obtain rfl := hf; exact hx
    | _ => exact hf.elim
  | sl n l => cases x with
    | sl n' l' =>
      obtain ⟨rfl, rfl, rfl⟩ := hf
      obtain ⟨fp, h1, h2⟩ := hx
      exact ⟨fp, h1, fun b hb => hnew b (by simpa using nw_iff h ((h2 b hb).2 rfl)) (fun k _ p g1 g2 => (h2 b hb).1 (mem_M.2 (Or.inr ⟨k, p, g1, g2⟩)))⟩
    | own k i =>
      obtain ⟨rfl, hk, o, h1, h2, rfl, h3⟩ := hf
      obtain ⟨_, o', p, g1, g2, g3, g4⟩ := hx
      rw [h1] at g1
      injection g1 with g1
      subst g1
      obtain rfl := g4 h2
      obtain ⟨cs, h5, h6, h7, h8⟩ := h.own k o p h1 g2
      refine ⟨_, Sl.of_at h5 h6, fun b hb => ?_⟩
      rcases List.mem_append.1 hb with hb | hb
      · have hb' : p.1.ownBlock = some b := by simpa using hb
        exact hnew b (OwnsAt.lt h5 b hb').1 (fun k' hk' p' g5 g6 => hk (blocks_inj h g2 g5 hb' g6 ▸ hk'))
      · refine hnew b ?_ (fun k' _ p' g5 g6 => (h8 b hb).1 (mem_M.2 (Or.inr ⟨k', p', g5, g6⟩)))
        rcases h3 with h3 | h3
        · simpa using nw_iff h ((h8 b hb).2 h3)
        · rw [h3 _ _ _ h6] at hb; simp at hb
    | raw v' => exact hf.elim
    | any => exact hf.elim
    | osub _ _ _ _ => exact hf.elim
    | cl _ _ => exact hf.elim
  | osub _ _ _ _ => cases x <;> exact hf.elim
  | own j z => cases x with
    | own k i =>
      obtain ⟨hj, rfl, o, h1, h2⟩ := hf
      obtain ⟨hv, o', p, g1, g2, g3, g4⟩ := hx
      rw [h1] at g1
      injection g1 with g1
      subst g1
      obtain ⟨l1, l2⟩ := outs_get ho
      have hj' : j < os'.length := by rw [← l1]; exact (List.getElem?_eq_some_iff.1 hj).1
      obtain ⟨o2, q1, q2, _⟩ := l2 j k _ hj (List.getElem?_eq_getElem hj')
      refine ⟨hv, os'[j], p, List.getElem?_eq_getElem hj', ?_, Nat.zero_le _, fun _ => g4 h2⟩
      rw [pkOm_get hj, List.getD_eq_getElem?_getD, g2]
      rfl
    | _ => exact hf.elim
  | cl f caps => cases x <;> exact hf.elim
theorem acsFitsX_ok (h : Rel B [] G w0 st E a w) (ho : OutsOk st.owns pk os') : ∀ {xs ys : List AC} {vs : List Value}, AcsFitsX st.owns pk xs ys → Oks E st.owns w xs vs → Oks ⟨B, pkOm E pk, [], []⟩ os' w ys vs
  | [], [], [], _, _ => trivial
  | x :: xs, y :: ys, v :: vs, hf, hx => ⟨acFitsX_ok h ho hf.1 hx.1, acsFitsX_ok h ho hf.2 hx.2⟩
  | [], [], _ :: _, _, hx => hx.elim
  | _ :: _, _ :: _, [], _, hx => hx.elim
  | [], _ :: _, _, hf, _ => hf.elim
  | _ :: _, [], _, hf, _ => hf.elim
theorem finPX_ok {P : Program} (h : Rel B [] G w0 st E a w) (ho : OutsOk st.owns pk os') {r : ResultVar} {g : Bool} {ys : List AC} (hp : placeOk P r g ys.length = true) (hf : FinPX pk r g ys st) :
    ∃ v, (placeVal r a.tmps).run P w = .ok v w ∧ Gok ⟨B, pkOm E pk, [], []⟩ os' w g ys v := by
  cases r with
  | tmp t =>
    obtain ⟨xs, h1, h2⟩ := hf
    refine ⟨_, rfl, ?_⟩
    have hx := slot_ok h h1
    cases g with
    | true => obtain ⟨vs, h3, h4⟩ := hx; exact ⟨vs, h3, acsFitsX_ok h ho h2 h4⟩
    | false => exact acsFitsX_ok h ho h2 (show Oks _ _ _ xs [_] from hx)
  | cell t ty =>
    obtain ⟨k, xs, h1, h2, h3⟩ := hf
    simp only [placeOk, Bool.and_eq_true, structOf] at hp
    obtain ⟨rfl, hp⟩ := hp
    split at hp
    · next i d hi hd =>
      simp only [Bool.and_eq_true, beq_iff_eq] at hp
      obtain ⟨p, g1, g2⟩ := slot_ok h h1
      obtain ⟨_, vs, h4, h5⟩ := h.box k xs p h2 g1
      have hlen : vs.length = i.size := by rw [← h5.len, acsFitsX_len h3, hp.1]
      refine ⟨.agg vs.toArray, ?_, vs, rfl, acsFitsX_ok h ho h3 h5⟩
      simp only [placeVal]
      rw [g2]
      have := run_loadVar_row (P := P) w p.1 p.2 ty vs.toArray (0, 0) d h4 hd (by have := hp.2; cases d <;> simp_all [isAggD]) (by rw [hi]; simp [hlen])
      simp [asAddr, this]
    · cases hp
end
theorem calls_outs2 {r q : ResultVar} {g g' : Bool} {ys zs : List AC} {os' : List Own} (hf : P.funcs[f]? = some fn) (hb : fn.body = some code) (hr : fn.results = #[r, q]) (hp : (placeOk P r g ys.length && placeOk P q g' zs.length) = true) (hc : compC P code = some ic)
    (h : AWP P ic (AEnd (fun st => ∃ pk : List Nat, pk.Nodup ∧ OutsOk st.owns pk os' ∧ FinPX pk r g ys st ∧ FinPX pk q g' zs st)) (st0 fn.ntmps ds)) : CallsX P f ds (.tup [(g, ys), (g', zs)]) os' := by
  refine calls_awp (post := fun w e w' => OutPost (.tup [(g, ys), (g', zs)]) os' w e w') hf hb hc h ?_
  rintro G w w' st E a hR ⟨pk, hnd, ho, h1, h2⟩
  simp only [Bool.and_eq_true] at hp
  obtain ⟨v, h3, h4⟩ := finPX_ok hR ho hp.1 h1
  obtain ⟨u, h5, h6⟩ := finPX_ok hR ho hp.2 h2
  exact ⟨_, results_two hr _ h3 h5, _, pkOm E pk, rfl, ownsOk_pk hR ho hnd, ⟨[v, u], rfl, h4, h6, trivial⟩, hR.below.out⟩
theorem calls_wrap {t : Nat} {ty : TypeId} {l : List D} {e s : Nat} (hf : P.funcs[f]? = some fn) (hb : fn.body = some code) (hr : fn.results = #[.cell t ty]) (hp : structOf P ty 1 = true) (hc : compC P code = some ic)
    (h : AWP P ic (AEnd (FinW t l e s)) (st0 fn.ntmps ds)) : CallsOwnG P f ds true l e s := by
  refine calls_awp (post := fun w e' w' => OwnPost true l e s w e' w') hf hb hc h ?_
  rintro G w w' st E a hR ⟨b, k, i, h1, h2, h3⟩
  simp only [structOf] at hp
  split at hp
  · next inf d hi hd =>
    simp only [Bool.and_eq_true, beq_iff_eq] at hp
    obtain ⟨p, g1, g2⟩ := slot_ok hR h1
    obtain ⟨_, vs, h4, h5⟩ := hR.box b _ p h2 g1
    match vs, h5 with
    | [v], h5 =>
      obtain ⟨cs, f', h6, h7, h8⟩ := ownAt_ok hR h5.1 h3
      refine ⟨.agg #[v], results_one hr _ ?_, v, cs, f', rfl, h6, h7, h8, hR.below.out⟩
      simp only [placeVal]
      rw [g2]
      have := run_loadVar_row (P := P) w' p.1 p.2 ty #[v] (0, 0) d (by simpa [Row] using h4) hd (by have := hp.2; cases d <;> simp_all [isAggD]) (by rw [hi]; simp [hp.1])
      simp [asAddr, this]
  · cases hp
end
end Go.Proofs.YtdjcflnemnknaaaDoor
