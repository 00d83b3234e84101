/-
  A small language of plain steps over values that are known in part, and what it means that a frame and a memory hold such values. No Go text in sight.
-/
import Derived.Test.YtdjcflnemnknaaaDoorTab
namespace Go.Proofs.YtdjcflnemnknaaaDoor
open Go.RowKit
set_option linter.unusedSimpArgs false
set_option linter.unusedVariables false

/-- What is known of one cell: nothing; its value; that it is a slice that reads as a list (n: over memory that the call has made); that it is the slice of the call's own number k, as it stood at version i. -/
inductive AC where
  | any
  | raw (v : Value)
  | sl (n : Bool) (l : List D)
  | own (k i : Nat)
  | osub (k i a b : Nat)
  | cl (f : Nat) (caps : List Nat)
/-- What is known of a value in a slot. -/
inductive AV where
  | any
  | c (g : Bool) (xs : List AC)
  | ptr (xs : List AC)
  | bptr (k off : Nat)
  | eptr (k i j off : Nat)
  | tup (ys : List (Bool × List AC))
/-- A slice of the call's own. -/
structure Own where
  l : List D
  e : TypeId
  s : Nat
  ver : Nat
  nw : Bool
structure St where
  fr : List AV
  owns : List Own
  boxes : List (List AC)
structure Env where
  B : Nat
  om : List (Value × List Nat)
  bm : List (Nat × TypeId)
  X : List Nat
/-- Blocks that count as new. -/
def Env.nw (E : Env) (b : Nat) : Prop := E.B ≤ b ∨ b ∈ E.X
/-- The blocks that the call may still write. -/
def Env.M (E : Env) : List Nat := E.bm.map (·.1) ++ E.om.flatMap (fun p => p.1.ownBlock.toList)

def AC.ok (E : Env) (os : List Own) (w : World) : AC → Value → Prop
  | .any, _ => True
  | .raw u, v => v = u
  | .sl n l, v => ∃ fp, Sl w l fp v ∧ ∀ b ∈ fp, b ∉ E.M ∧ (n = true → E.nw b)
  | .own k i, v => (∃ A n c, v = Value.slice A n c) ∧ ∃ o p, os[k]? = some o ∧ E.om[k]? = some p ∧ i ≤ o.ver ∧ (o.ver = i → v = p.1)
  | .osub k i a b, v => (∃ A n c, v = Value.slice A n c) ∧ ∃ o p, os[k]? = some o ∧ E.om[k]? = some p ∧ i ≤ o.ver ∧ (o.ver = i → ∃ A n c, p.1 = .slice A n c ∧ a ≤ b ∧ b ≤ n ∧ v = sliced A a b c o.s)
  | .cl f caps, v => ∃ ps : List (Nat × TypeId), caps.map (fun k => E.bm[k]?) = ps.map some ∧ v = .func (.func f) #[] (ps.map fun p => .pointer (some ⟨p.1, 0, none⟩)).toArray
def Oks (E : Env) (os : List Own) (w : World) : List AC → List Value → Prop
  | [], [] => True
  | x :: xs, v :: vs => x.ok E os w v ∧ Oks E os w xs vs
  | _, _ => False
def Gok (E : Env) (os : List Own) (w : World) (g : Bool) (xs : List AC) (v : Value) : Prop :=
  if g then ∃ vs, v = .agg vs.toArray ∧ Oks E os w xs vs else Oks E os w xs [v]
def Toks (E : Env) (os : List Own) (w : World) : List (Bool × List AC) → List Value → Prop
  | [], [] => True
  | x :: xs, v :: vs => Gok E os w x.1 x.2 v ∧ Toks E os w xs vs
  | _, _ => False
def AV.ok (E : Env) (os : List Own) (w : World) : AV → Value → Prop
  | .any, _ => True
  | .c g xs, v => Gok E os w g xs v
  | .ptr xs, v => ∃ b o vs, v = .pointer (some ⟨b, o, none⟩) ∧ b < w.heap.size ∧ b ∉ E.M ∧ At w b o vs ∧ Oks E os w xs vs
  | .bptr k off, v => ∃ p, E.bm[k]? = some p ∧ v = .pointer (some ⟨p.1, off, none⟩)
  | .eptr k i j off, v => ∃ o p, os[k]? = some o ∧ E.om[k]? = some p ∧ i ≤ o.ver ∧ (o.ver = i → ∃ b z, v = .pointer (some ⟨b, z + (j * o.s + off), none⟩) ∧ baseOf p.1 = some (b, z))
  | .tup ys, v => ∃ vs, v = .tuple vs.toArray ∧ Toks E os w ys vs

theorem Oks.len {E : Env} {os : List Own} {w : World} : ∀ {xs : List AC} {vs : List Value}, Oks E os w xs vs → xs.length = vs.length
  | [], [], _ => rfl
  | x :: xs, v :: vs, h => by rw [List.length_cons, List.length_cons, Oks.len h.2]
  | [], _ :: _, h => h.elim
  | _ :: _, [], h => h.elim
theorem Oks.take {E : Env} {os : List Own} {w : World} : ∀ {xs : List AC} {vs : List Value}, Oks E os w xs vs → ∀ n, Oks E os w (xs.take n) (vs.take n)
  | [], [], _, n => by simp [Oks]
  | x :: xs, v :: vs, h, 0 => by simp [Oks]
  | x :: xs, v :: vs, h, n + 1 => ⟨h.1, Oks.take h.2 n⟩
  | [], _ :: _, h, _ => h.elim
  | _ :: _, [], h, _ => h.elim
theorem Oks.drop {E : Env} {os : List Own} {w : World} : ∀ {xs : List AC} {vs : List Value}, Oks E os w xs vs → ∀ n, Oks E os w (xs.drop n) (vs.drop n)
  | [], [], _, n => by simp [Oks]
  | x :: xs, v :: vs, h, 0 => h
  | x :: xs, v :: vs, h, n + 1 => by simpa using Oks.drop h.2 n
  | [], _ :: _, h, _ => h.elim
  | _ :: _, [], h, _ => h.elim
theorem Oks.append {E : Env} {os : List Own} {w : World} {ys : List AC} {us : List Value} (h2 : Oks E os w ys us) : ∀ {xs : List AC} {vs : List Value}, Oks E os w xs vs → Oks E os w (xs ++ ys) (vs ++ us)
  | [], [], _ => h2
  | x :: xs, v :: vs, h => ⟨h.1, Oks.append h2 h.2⟩
  | [], _ :: _, h => h.elim
  | _ :: _, [], h => h.elim
theorem Oks.get {E : Env} {os : List Own} {w : World} : ∀ {xs : List AC} {vs : List Value}, Oks E os w xs vs → ∀ {j : Nat} {x : AC}, xs[j]? = some x → ∃ v, vs[j]? = some v ∧ x.ok E os w v
  | [], [], _, j, x, hx => by simp at hx
  | y :: xs, v :: vs, h, 0, x, hx => by
    simp at hx
    subst hx
    exact ⟨v, rfl, h.1⟩
  | y :: xs, v :: vs, h, j + 1, x, hx => by
    simp at hx
    obtain ⟨u, h1, h2⟩ := Oks.get h.2 hx
    exact ⟨u, by simpa using h1, h2⟩
  | [], _ :: _, h, _, _, _ => h.elim
  | _ :: _, [], h, _, _, _ => h.elim

/-- From one world to a later one: what is not the call's own to write stands; own slices keep their rows, or have a new version. -/
structure Sim (E : Env) (os : List Own) (w : World) (E' : Env) (os' : List Own) (w' : World) : Prop where
  base : E'.nw = E.nw
  size : w.heap.size ≤ w'.heap.size
  blk : ∀ b, b < w.heap.size → b ∉ E.M → w'.heap[b]? = w.heap[b]?
  old : ∀ b, b < w.heap.size → b ∈ E'.M → b ∈ E.M
  own : ∀ (k : Nat) (o : Own) (p : Value × List Nat), os[k]? = some o → E.om[k]? = some p → ∃ (o' : Own) (p' : Value × List Nat), os'[k]? = some o' ∧ E'.om[k]? = some p' ∧ o.ver ≤ o'.ver ∧
    (o.ver = o'.ver → p'.1 = p.1 ∧ o.s = o'.s)
  box : ∀ (k : Nat) (p : Nat × TypeId), E.bm[k]? = some p → E'.bm[k]? = some p
section
variable {E E' : Env} {os os' : List Own} {w w' : World}
theorem AC.ok.sim (h : Sim E os w E' os' w') {x : AC} {v : Value} (hx : x.ok E os w v) : x.ok E' os' w' v := by
  cases x with
  | any => trivial
  | raw u => exact hx
  | sl n l =>
    obtain ⟨fp, h1, h2⟩ := hx
    exact ⟨fp, R.same h1 (fun b hb => h.blk b (R.lt h1 b hb) (h2 b hb).1) h.size, fun b hb => ⟨fun hm => (h2 b hb).1 (h.old b (R.lt h1 b hb) hm), fun e => by rw [h.base]; exact (h2 b hb).2 e⟩⟩
  | own k i =>
    obtain ⟨hv, o, p, h1, h2, h3, h4⟩ := hx
    obtain ⟨o', p', h5, h6, h7, h8⟩ := h.own k o p h1 h2
    refine ⟨hv, o', p', h5, h6, Nat.le_trans h3 h7, fun e => ?_⟩
    have : o.ver = o'.ver := by omega
    rw [(h8 this).1]
    exact h4 (by omega)
  | osub k i a b =>
    obtain ⟨hv, o, p, h1, h2, h3, h4⟩ := hx
    obtain ⟨o', p', h5, h6, h7, h8⟩ := h.own k o p h1 h2
    refine ⟨hv, o', p', h5, h6, Nat.le_trans h3 h7, fun e => ?_⟩
    have e' : o.ver = o'.ver := by omega
    obtain ⟨A, n, c, q1, q2, q3, q4⟩ := h4 (by omega)
    obtain ⟨h13, h14⟩ := h8 e'
    exact ⟨A, n, c, by rw [h13]; exact q1, q2, q3, by rw [← h14]; exact q4⟩
  | cl f caps =>
    obtain ⟨ps, h1, h2⟩ := hx
    refine ⟨ps, ?_, h2⟩
    clear h2
    induction caps generalizing ps with
    | nil => exact h1
    | cons k caps ih =>
      cases ps with
      | nil => simp at h1
      | cons p ps =>
        simp only [List.map_cons, List.cons.injEq] at h1 ⊢
        exact ⟨h.box k p h1.1, ih ps h1.2⟩
theorem Oks.sim (h : Sim E os w E' os' w') : ∀ {xs : List AC} {vs : List Value}, Oks E os w xs vs → Oks E' os' w' xs vs
  | [], [], _ => trivial
  | x :: xs, v :: vs, hx => ⟨hx.1.sim h, Oks.sim h hx.2⟩
  | [], _ :: _, h => h.elim
  | _ :: _, [], h => h.elim
theorem Gok.sim (h : Sim E os w E' os' w') {g : Bool} {xs : List AC} {v : Value} (hx : Gok E os w g xs v) : Gok E' os' w' g xs v := by
  unfold Gok at *
  split at hx
  · obtain ⟨vs, h1, h2⟩ := hx
    rw [if_pos (by assumption)]
    exact ⟨vs, h1, h2.sim h⟩
  · rw [if_neg (by assumption)]
    exact hx.sim h
theorem Toks.sim (h : Sim E os w E' os' w') : ∀ {xs : List (Bool × List AC)} {vs : List Value}, Toks E os w xs vs → Toks E' os' w' xs vs
  | [], [], _ => trivial
  | x :: xs, v :: vs, hx => ⟨hx.1.sim h, Toks.sim h hx.2⟩
  | [], _ :: _, h => h.elim
  | _ :: _, [], h => h.elim
theorem At.blk {b o : Nat} {vs : List Value} (h : At w b o vs) (hb : w'.heap[b]? = w.heap[b]?) : At w' b o vs := fun j u hj => (World.cell?_of_block (a := ⟨b, o + j, none⟩) hb).trans (h j u hj)
theorem AV.ok.sim (h : Sim E os w E' os' w') {x : AV} {v : Value} (hx : x.ok E os w v) : x.ok E' os' w' v := by
  cases x with
  | any => trivial
  | c g xs => exact Gok.sim h hx
  | ptr xs =>
    obtain ⟨b, o, vs, h1, h2, h3, h4, h5⟩ := hx
    exact ⟨b, o, vs, h1, Nat.lt_of_lt_of_le h2 h.size, fun hm => h3 (h.old b h2 hm), h4.blk (h.blk b h2 h3), h5.sim h⟩
  | bptr k off =>
    obtain ⟨p, h1, h2⟩ := hx
    exact ⟨p, h.box k p h1, h2⟩
  | eptr k i j off =>
    obtain ⟨o, p, h1, h2, h3, h4⟩ := hx
    obtain ⟨o', p', h5, h6, h7, h8⟩ := h.own k o p h1 h2
    refine ⟨o', p', h5, h6, Nat.le_trans h3 h7, fun e => ?_⟩
    have e' : o.ver = o'.ver := by omega
    obtain ⟨b, z, h9, h10⟩ := h4 (by omega)
    obtain ⟨h13, h14⟩ := h8 e'
    exact ⟨b, z, by rw [← h14]; exact h9, by rw [h13]; exact h10⟩
  | tup ys =>
    obtain ⟨vs, h1, h2⟩ := hx
    exact ⟨vs, h1, h2.sim h⟩
end

/-- Where a call's own way began. -/
structure Org where
  E : Env
  os : List Own
  w : World
theorem Sim.refl (E : Env) (os : List Own) (w : World) : Sim E os w E os w where
  base := rfl
  size := Nat.le_refl _
  blk := fun _ _ _ => rfl
  old := fun _ _ h => h
  own := fun k o p h1 h2 => ⟨o, p, h1, h2, Nat.le_refl _, fun _ => ⟨rfl, rfl⟩⟩
  box := fun _ _ h => h
theorem Sim.trans {E E' E'' : Env} {os os' os'' : List Own} {w w' w'' : World} (h : Sim E os w E' os' w') (k : Sim E' os' w' E'' os'' w'') : Sim E os w E'' os'' w'' where
  base := k.base.trans h.base
  size := Nat.le_trans h.size k.size
  blk := fun b hb hm => (k.blk b (Nat.lt_of_lt_of_le hb h.size) (fun hm' => hm (h.old b hb hm'))).trans (h.blk b hb hm)
  old := fun b hb hm => h.old b hb (k.old b (Nat.lt_of_lt_of_le hb h.size) hm)
  own := fun j o p h1 h2 => by
    obtain ⟨o', p', g1, g2, g3, g4⟩ := h.own j o p h1 h2
    obtain ⟨o'', p'', q1, q2, q3, q4⟩ := k.own j o' p' g1 g2
    refine ⟨o'', p'', q1, q2, Nat.le_trans g3 q3, fun e => ?_⟩
    obtain ⟨a1, a2⟩ := g4 (by omega)
    obtain ⟨b1, b2⟩ := q4 (by omega)
    exact ⟨b1.trans a1, a2.trans b2⟩
  box := fun j p hp => k.box j p (h.box j p hp)
/-- Elements of one size, each leaf one cell. -/
def El (s : Nat) (l : List D) : Prop := ∀ d ∈ l, d.one ∧ d.sz = s
theorem El.append {s : Nat} {a b : List D} (h : El s a) (k : El s b) : El s (a ++ b) := fun d hd => (List.mem_append.1 hd).elim (h d) (k d)

/-- The elder memory stands, and what is known of the variables will stand. -/
structure BelowT (B : Nat) (w0 w : World) : Prop where
  out : Below B w0 w
  tab : ∀ w', Below B w w' → TabP w'
theorem BelowT.trans {B : Nat} {a b c : World} (h : BelowT B a b) (k : Below B b c) : BelowT B a c := ⟨h.out.trans k, fun w' h' => h.tab w' (k.trans h')⟩
theorem BelowT.grown {B : Nat} {a w w' : World} {row : Option Nat} (h : BelowT B a w) (hg : w.grownBy w' row) (hB : B ≤ w.heap.size) (hr : ∀ k, row = some k → B ≤ k) : BelowT B a w' := h.trans ((Below.refl _ _).grown hg hB hr)
theorem BelowT.now {B : Nat} {a w : World} (h : BelowT B a w) : TabP w := h.tab w (Below.refl _ _)
theorem BelowT.start {w : World} (h : TabP w) : BelowT w.heap.size w w := ⟨Below.refl _ _, fun _ hb => tab_stay h hb⟩
/-- Frame and memory hold the state. -/
structure Rel (B : Nat) (Xs : List Nat) (G : Org) (w0 : World) (st : St) (E : Env) (a : Act) (w : World) : Prop where
  eb : E.B = B
  ex : E.X = Xs
  sim : Sim G.E G.os G.w E st.owns w
  defers : a.defers = []
  size : a.tmps.size = st.fr.length
  fr : ∀ (t : Nat) (x : AV), st.fr[t]? = some x → x.ok E st.owns w (a.tmps.getD t undef)
  olen : E.om.length = st.owns.length
  own : ∀ (k : Nat) (o : Own) (p : Value × List Nat), st.owns[k]? = some o → E.om[k]? = some p → ∃ cs, OwnsAt w B o.e o.s p.1 o.l.length cs ∧ Rs w o.l p.2 cs ∧ El o.s o.l ∧ ∀ b ∈ p.2, b ∉ E.M ∧ (o.nw = true → E.nw b)
  blen : E.bm.length = st.boxes.length
  box : ∀ (k : Nat) (xs : List AC) (p : Nat × TypeId), st.boxes[k]? = some xs → E.bm[k]? = some p → B ≤ p.1 ∧ ∃ vs, Row w p.1 p.2 vs ∧ Oks E st.owns w xs vs
  nodup : E.M.Nodup
  below : BelowT B w0 w
  base : B ≤ w.heap.size

def St.put (st : St) (d : Option Nat) (x : AV) : St := match d with | some t => { st with fr := st.fr.set t x } | none => st
theorem put_tmps (a : Act) (d : Option Nat) (v : Value) : (a.put d v).tmps = match d with | some t => a.tmps.setIfInBounds t v | none => a.tmps := by cases d <;> rfl
theorem put_defers (a : Act) (d : Option Nat) (v : Value) : (a.put d v).defers = a.defers := by cases d <;> rfl
theorem put_size (a : Act) (d : Option Nat) (v : Value) : (a.put d v).tmps.size = a.tmps.size := by cases d <;> simp [Act.put]
theorem stput_len (st : St) (d : Option Nat) (x : AV) : (st.put d x).fr.length = st.fr.length := by cases d <;> simp [St.put]
theorem stput_owns (st : St) (d : Option Nat) (x : AV) : (st.put d x).owns = st.owns := by cases d <;> rfl
theorem stput_boxes (st : St) (d : Option Nat) (x : AV) : (st.put d x).boxes = st.boxes := by cases d <;> rfl

theorem fr_put {E : Env} {os : List Own} {w : World} {st : St} {a : Act} {d : Option Nat} {x : AV} {v : Value} (hs : a.tmps.size = st.fr.length)
    (h : ∀ (t : Nat) (y : AV), st.fr[t]? = some y → y.ok E os w (a.tmps.getD t undef)) (hx : x.ok E os w v) :
    ∀ (t : Nat) (y : AV), (st.put d x).fr[t]? = some y → y.ok E os w ((a.put d v).tmps.getD t undef) := by
  intro t y hy
  cases d with
  | none => exact h t y hy
  | some d =>
    simp only [St.put] at hy
    rw [List.getElem?_set] at hy
    rw [put_tmps]
    simp only [Array.getD_eq_getD_getElem?]
    by_cases e : d = t
    · subst e
      by_cases hlt : d < st.fr.length
      · rw [if_pos rfl, if_pos hlt] at hy
        injection hy with hy
        subst hy
        rw [Array.getElem?_setIfInBounds_self_of_lt (by omega)]
        exact hx
      · rw [if_pos rfl, if_neg hlt] at hy
        cases hy
    · rw [if_neg e] at hy
      rw [Array.getElem?_setIfInBounds_ne e]
      have := h t y hy
      rwa [Array.getD_eq_getD_getElem?] at this

section
variable {B : Nat} {Xs : List Nat} {G : Org} {w0 : World} {st : St} {E : Env} {a : Act} {w w' : World}
theorem Rel.nw_of (h : Rel B Xs G w0 st E a w) {b : Nat} (hb : B ≤ b) : E.nw b := Or.inl (by rw [h.eb]; exact hb)
theorem M_lt_box (h : Rel B Xs G w0 st E a w) {k : Nat} {p : Nat × TypeId} (hp : E.bm[k]? = some p) : B ≤ p.1 ∧ p.1 < w.heap.size := by
  have hk : k < st.boxes.length := by rw [← h.blen]; exact (List.getElem?_eq_some_iff.1 hp).1
  obtain ⟨h1, vs, h2, _⟩ := h.box k _ p (List.getElem?_eq_getElem hk) hp
  exact ⟨h1, h2.lt⟩
theorem M_lt_own (h : Rel B Xs G w0 st E a w) {k : Nat} {p : Value × List Nat} (hp : E.om[k]? = some p) {b : Nat} (hb : p.1.ownBlock = some b) : B ≤ b ∧ b < w.heap.size := by
  have hk : k < st.owns.length := by rw [← h.olen]; exact (List.getElem?_eq_some_iff.1 hp).1
  obtain ⟨cs, h1, _⟩ := h.own k _ p (List.getElem?_eq_getElem hk) hp
  exact OwnsAt.lt h1 b hb
theorem mem_M {b : Nat} : b ∈ E.M ↔ (∃ (k : Nat) (p : Nat × TypeId), E.bm[k]? = some p ∧ p.1 = b) ∨ ∃ (k : Nat) (p : Value × List Nat), E.om[k]? = some p ∧ p.1.ownBlock = some b := by
  unfold Env.M
  rw [List.mem_append, List.mem_map, List.mem_flatMap]
  constructor
  · rintro (⟨p, h1, h2⟩ | ⟨p, h1, h2⟩)
    · obtain ⟨k, hk⟩ := List.mem_iff_getElem?.1 h1
      exact Or.inl ⟨k, p, hk, h2⟩
    · obtain ⟨k, hk⟩ := List.mem_iff_getElem?.1 h1
      exact Or.inr ⟨k, p, hk, by simpa using h2⟩
  · rintro (⟨k, p, h1, h2⟩ | ⟨k, p, h1, h2⟩)
    · exact Or.inl ⟨p, List.mem_of_getElem? h1, h2⟩
    · exact Or.inr ⟨p, List.mem_of_getElem? h1, by simpa using h2⟩
theorem M_lt (h : Rel B Xs G w0 st E a w) {b : Nat} (hb : b ∈ E.M) : B ≤ b ∧ b < w.heap.size := by
  rcases mem_M.1 hb with ⟨k, p, h1, rfl⟩ | ⟨k, p, h1, h2⟩
  · exact M_lt_box h h1
  · exact M_lt_own h h1 h2

/-- Only new blocks: all stands. -/
theorem Sim.of_below (h : Rel B Xs G w0 st E a w) (hb : Below w.heap.size w w') : Sim E st.owns w E st.owns w' where
  base := rfl
  size := hb.size
  blk := fun b hlt _ => hb.block b hlt
  old := fun _ _ h => h
  own := fun k o p h1 h2 => ⟨o, p, h1, h2, Nat.le_refl _, fun _ => ⟨rfl, rfl⟩⟩
  box := fun _ _ h => h
theorem Rel.below_put (h : Rel B Xs G w0 st E a w) (hb : Below w.heap.size w w') {d : Option Nat} {x : AV} {v : Value} (hx : x.ok E st.owns w' v) : Rel B Xs G w0 (st.put d x) E (a.put d v) w' where
  eb := h.eb
  ex := h.ex
  sim := by rw [stput_owns]; exact h.sim.trans (Sim.of_below h hb)
  defers := by rw [put_defers]; exact h.defers
  size := by rw [put_size, stput_len]; exact h.size
  fr := by rw [stput_owns]; exact fr_put h.size (fun t y hy => (h.fr t y hy).sim (Sim.of_below h hb)) hx
  olen := by rw [stput_owns]; exact h.olen
  own := by
    rw [stput_owns]
    intro k o p h1 h2
    obtain ⟨cs, h3, h4, h5⟩ := h.own k o p h1 h2
    exact ⟨cs, ownsAt_below h3 hb, h4.below hb, h5⟩
  blen := by rw [stput_boxes]; exact h.blen
  box := by
    rw [stput_boxes, stput_owns]
    intro k xs p h1 h2
    obtain ⟨h3, vs, h4, h5⟩ := h.box k xs p h1 h2
    exact ⟨h3, vs, h4.below hb, h5.sim (Sim.of_below h hb)⟩
  nodup := h.nodup
  below := h.below.trans (hb.mono h.base)
  base := Nat.le_trans h.base hb.size
end
end Go.Proofs.YtdjcflnemnknaaaDoor
