/-
  Texts joined: Lib Types App Fin Mark Mk Own Read Kinds Names.
-/
import Derived.WalkKit
import Derived.WalkSpells
import Derived.WalkLawsBesides
import Derived.ProofKit
import Derived.OpenShut
import Derived.Below
import Derived.Carry
import Derived.Outline
import Derived.Lib.Hide
import Derived.Laws.OwnMore
import Derived.Laws.MakeOwn
import Derived.Maps.AppendAt
import Derived.Deep.AppendLies
import Derived.Deep.RegionHeld3
import Derived.Deep.DeepCutAuto
import Derived.Deep.DeepFit
import Derived.Deep.QuietTactic
import Derived.Deep.Slices
import Derived.BigQuiet
import Derived.RegionTactic
import Derived.OwnWalk
import Derived.Test.YtdjcflnemnknaaaDoorRows
import Derived.ChangeSame
import Derived.Test.YtdjcflnemnknaaaDoorProg
import Derived.Laws.IdiomStrings
import Derived.Laws.Concat
import Derived.KernelRfl
namespace Go.Proofs.YtdjcflnemnknaaaDoor
open Go.RowKit
set_option linter.unusedVariables false

theorem ret_int {k : IntKind} {a b : Int} (h : a = b) : Ending.returned (.int k a) = .returned (.int k b) := by rw [h]
theorem ret_bool {a b : Bool} (h : a = b) : Ending.returned (.bool a) = .returned (.bool b) := by rw [h]

/-- The cells from an address on. -/
def At (w : World) (b o : Nat) (cs : List Value) : Prop := ∀ j u, cs[j]? = some u → w.cell? ⟨b, o + j, none⟩ = some u

theorem At.head {w : World} {b o : Nat} {c : Value} {cs : List Value} (h : At w b o (c :: cs)) : w.cell? ⟨b, o, none⟩ = some c := h 0 c rfl
theorem At.nth {w : World} {b o : Nat} {cs : List Value} (h : At w b o cs) (j : Nat) {u : Value} (hj : cs[j]? = some u) : w.cell? ⟨b, o + j, none⟩ = some u := h j u hj
theorem At.left {w : World} {b o : Nat} {c1 c2 : List Value} (h : At w b o (c1 ++ c2)) : At w b o c1 := fun j u hj => by
  refine h j u ?_
  rw [List.getElem?_append_left]
  · exact hj
  · exact (List.getElem?_eq_some_iff.1 hj).1
theorem At.right {w : World} {b o : Nat} {c1 c2 : List Value} (h : At w b o (c1 ++ c2)) : At w b (o + c1.length) c2 := fun j u hj => by
  have := h (c1.length + j) u (by rw [List.getElem?_append_right (by omega)]; simpa using hj)
  rwa [← Nat.add_assoc] at this

/-- A tree of data: a leaf is a value of one cell (a number, a string, a bool). -/
inductive D where
  | leaf (v : Value)
  | sl (l : List D)
  | agg (l : List D)

mutual
/-- The cells `cs` hold the datum, over the blocks `fp`. -/
def R (w : World) : D → List Nat → List Value → Prop
  | .leaf v, fp, cs => fp = [] ∧ cs = [v]
  | .agg l, fp, cs => Rs w l fp cs
  | .sl l, fp, cs => ∃ A cap, cs = [.slice A l.length cap] ∧ l.length ≤ cap ∧ cap ≤ maxLen ∧ ((l = [] ∧ fp = []) ∨ ∃ b o fp' cs', A = some ⟨b, o, none⟩ ∧ fp = b :: fp' ∧ b < w.heap.size ∧ Rs w l fp' cs' ∧ At w b o cs')
def Rs (w : World) : List D → List Nat → List Value → Prop
  | [], fp, cs => fp = [] ∧ cs = []
  | d :: l, fp, cs => ∃ f1 f2 c1 c2, fp = f1 ++ f2 ∧ cs = c1 ++ c2 ∧ R w d f1 c1 ∧ Rs w l f2 c2
end

mutual
/-- How many cells it takes. -/
def D.sz : D → Nat
  | .leaf _ => 1
  | .sl _ => 1
  | .agg l => D.szs l
def D.szs : List D → Nat
  | [] => 0
  | d :: l => d.sz + D.szs l
end

mutual
theorem R.len {w : World} : ∀ {d : D} {fp : List Nat} {cs : List Value}, R w d fp cs → cs.length = d.sz
  | .leaf _, _, _, h => by rw [h.2]; rfl
  | .sl _, _, _, h => by obtain ⟨A, cap, rfl, _⟩ := h; rfl
  | .agg l, _, _, h => by rw [D.sz]; exact Rs.len (l := l) (by simpa [R] using h)
theorem Rs.len {w : World} : ∀ {l : List D} {fp : List Nat} {cs : List Value}, Rs w l fp cs → cs.length = D.szs l
  | [], _, _, h => by rw [h.2]; rfl
  | d :: l, _, _, h => by
    obtain ⟨f1, f2, c1, c2, rfl, rfl, h1, h2⟩ := h
    rw [List.length_append, h1.len, Rs.len h2, D.szs]
end

mutual
theorem R.same {w w' : World} : ∀ {d : D} {fp : List Nat} {cs : List Value}, R w d fp cs → (∀ b ∈ fp, w'.heap[b]? = w.heap[b]?) → w.heap.size ≤ w'.heap.size → R w' d fp cs
  | .leaf _, _, _, h, _, _ => h
  | .agg l, fp, cs, h, hs, hz => by
    rw [R] at h ⊢
    exact Rs.same h hs hz
  | .sl l, fp, cs, h, hs, hz => by
    rw [R] at h ⊢
    obtain ⟨A, cap, rfl, h1, h2, h3⟩ := h
    refine ⟨A, cap, rfl, h1, h2, ?_⟩
    rcases h3 with h3 | ⟨b, o, fp', cs', rfl, rfl, hb, hr, ha⟩
    · exact Or.inl h3
    · refine Or.inr ⟨b, o, fp', cs', rfl, rfl, by omega, Rs.same hr (fun x hx => hs x (by simp [hx])) hz, fun j u hj => ?_⟩
      rw [World.cell?_of_block (w := w) (hs b (by simp))]
      exact ha j u hj
theorem Rs.same {w w' : World} : ∀ {l : List D} {fp : List Nat} {cs : List Value}, Rs w l fp cs → (∀ b ∈ fp, w'.heap[b]? = w.heap[b]?) → w.heap.size ≤ w'.heap.size → Rs w' l fp cs
  | [], _, _, h, _, _ => h
  | d :: l, _, _, h, hs, hz => by
    obtain ⟨f1, f2, c1, c2, rfl, rfl, h1, h2⟩ := h
    exact ⟨f1, f2, c1, c2, rfl, rfl, h1.same (fun b hb => hs b (by simp [hb])) hz, Rs.same h2 (fun b hb => hs b (by simp [hb])) hz⟩
end

mutual
theorem R.lt {w : World} : ∀ {d : D} {fp : List Nat} {cs : List Value}, R w d fp cs → ∀ b ∈ fp, b < w.heap.size
  | .leaf _, _, _, h, b, hb => by rw [h.1] at hb; simp at hb
  | .agg l, fp, cs, h, b, hb => by
    rw [R] at h
    exact Rs.lt h b hb
  | .sl l, fp, cs, h, b, hb => by
    rw [R] at h
    obtain ⟨A, cap, rfl, h1, h2, h3⟩ := h
    rcases h3 with h3 | ⟨b', o, fp', cs', rfl, rfl, hb', hr, ha⟩
    · rw [h3.2] at hb; simp at hb
    · rcases List.mem_cons.1 hb with rfl | hb
      · exact hb'
      · exact Rs.lt hr b hb
theorem Rs.lt {w : World} : ∀ {l : List D} {fp : List Nat} {cs : List Value}, Rs w l fp cs → ∀ b ∈ fp, b < w.heap.size
  | [], _, _, h, b, hb => by rw [h.1] at hb; simp at hb
  | d :: l, _, _, h, b, hb => by
    obtain ⟨f1, f2, c1, c2, rfl, rfl, h1, h2⟩ := h
    rcases List.mem_append.1 hb with hb | hb
    · exact h1.lt b hb
    · exact Rs.lt h2 b hb
end

theorem R.below {w w' : World} {d : D} {fp : List Nat} {cs : List Value} (h : R w d fp cs) (hb : Below w.heap.size w w') : R w' d fp cs :=
  h.same (fun b hm => hb.block b (h.lt b hm)) hb.size
theorem Rs.below {w w' : World} {l : List D} {fp : List Nat} {cs : List Value} (h : Rs w l fp cs) (hb : Below w.heap.size w w') : Rs w' l fp cs :=
  h.same (fun b hm => hb.block b (h.lt b hm)) hb.size
theorem R.grown {w w' : World} {row : Option Nat} {d : D} {fp : List Nat} {cs : List Value} (h : R w d fp cs) (hg : w.grownBy w' row) (hn : ∀ g, row = some g → g ∉ fp) : R w' d fp cs :=
  h.same (fun b hm => hg.block b (h.lt b hm) (fun e => hn b e.symm hm)) hg.size
theorem Rs.grown {w w' : World} {row : Option Nat} {l : List D} {fp : List Nat} {cs : List Value} (h : Rs w l fp cs) (hg : w.grownBy w' row) (hn : ∀ g, row = some g → g ∉ fp) : Rs w' l fp cs :=
  h.same (fun b hm => hg.block b (h.lt b hm) (fun e => hn b e.symm hm)) hg.size
theorem R.setCell {w : World} {d : D} {fp : List Nat} {cs : List Value} (h : R w d fp cs) {p : Addr} (hp : p.block ∉ fp) (u : Value) : R (w.setCell p u) d fp cs :=
  h.same (fun b hm => Below.heap_setCell _ _ _ _ (fun e => hp (e ▸ hm))) (by simp [World.setCell])
theorem Rs.setCell {w : World} {l : List D} {fp : List Nat} {cs : List Value} (h : Rs w l fp cs) {p : Addr} (hp : p.block ∉ fp) (u : Value) : Rs (w.setCell p u) l fp cs :=
  h.same (fun b hm => Below.heap_setCell _ _ _ _ (fun e => hp (e ▸ hm))) (by simp [World.setCell])

/-- Two lists of data, one behind the other. -/
theorem Rs.append {w : World} {l2 : List D} {f2 : List Nat} {c2 : List Value} (h2 : Rs w l2 f2 c2) : ∀ {l1 : List D} {f1 : List Nat} {c1 : List Value}, Rs w l1 f1 c1 → Rs w (l1 ++ l2) (f1 ++ f2) (c1 ++ c2)
  | [], _, _, h => by rw [h.1, h.2]; exact h2
  | d :: l, _, _, h => by
    obtain ⟨g1, g2, e1, e2, rfl, rfl, h1, h3⟩ := h
    exact ⟨g1, g2 ++ f2, e1, e2 ++ c2, by simp, by simp, h1, Rs.append h2 h3⟩
theorem Rs.split {w : World} {l2 : List D} : ∀ {l1 : List D} {f : List Nat} {c : List Value}, Rs w (l1 ++ l2) f c → ∃ f1 f2 c1 c2, f = f1 ++ f2 ∧ c = c1 ++ c2 ∧ Rs w l1 f1 c1 ∧ Rs w l2 f2 c2
  | [], f, c, h => ⟨[], f, [], c, rfl, rfl, ⟨rfl, rfl⟩, h⟩
  | d :: l, _, _, h => by
    obtain ⟨g1, g2, e1, e2, rfl, rfl, h1, h3⟩ := h
    obtain ⟨f1, f2, c1, c2, rfl, rfl, h4, h5⟩ := Rs.split (l1 := l) h3
    exact ⟨g1 ++ f1, f2, e1 ++ c1, c2, by simp, by simp, ⟨g1, f1, e1, c1, rfl, rfl, h1, h4⟩, h5⟩
theorem Rs.one {w : World} {d : D} {f : List Nat} {c : List Value} (h : R w d f c) : Rs w [d] f c := ⟨f, [], c, [], by simp, by simp, h, rfl, rfl⟩
theorem Rs.of_one {w : World} {d : D} {f : List Nat} {c : List Value} (h : Rs w [d] f c) : R w d f c := by
  obtain ⟨f1, f2, c1, c2, rfl, rfl, h1, h2, h3⟩ := h
  simpa [h2, h3] using h1

theorem szs_const {s : Nat} : ∀ (l : List D), (∀ d ∈ l, d.sz = s) → D.szs l = l.length * s
  | [], _ => by simp [D.szs]
  | d :: l, h => by
    rw [D.szs, szs_const l (fun x hx => h x (by simp [hx])), h d (by simp), List.length_cons, Nat.add_mul]
    omega

/-- Element number i of a list whose elements take s cells each. -/
theorem Rs.get {w : World} {s : Nat} {l : List D} {fp : List Nat} {cs : List Value} (h : Rs w l fp cs) (hs : ∀ d ∈ l, d.sz = s) {i : Nat} {d : D} (hd : l[i]? = some d) :
    ∃ fi ci, R w d fi ci ∧ (∀ x ∈ fi, x ∈ fp) ∧ ∀ j u, ci[j]? = some u → cs[i * s + j]? = some u := by
  obtain ⟨hi, hd'⟩ := List.getElem?_eq_some_iff.1 hd
  have e : l = l.take i ++ (d :: l.drop (i + 1)) := by rw [← hd', ← List.drop_eq_getElem_cons, List.take_append_drop]
  rw [e] at h
  obtain ⟨f1, f2, c1, c2, rfl, rfl, h1, h2⟩ := Rs.split h
  obtain ⟨g1, g2, e1, e2, rfl, rfl, h3, h4⟩ := h2
  refine ⟨g1, e1, h3, fun x hx => by simp [hx], fun j u hj => ?_⟩
  have hl : c1.length = i * s := by
    rw [h1.len, szs_const (s := s) _ (fun x hx => hs x (List.mem_of_mem_take hx)), List.length_take, Nat.min_eq_left (by omega)]
  rw [List.getElem?_append_right (by omega), hl, show i * s + j - i * s = j by omega, List.getElem?_append_left]
  · exact hj
  · exact (List.getElem?_eq_some_iff.1 hj).1

/-- A slice's value that reads as a list of data: nil and empty slices let in. `A`, `cap` are letters: the address is asked for inside a round alone. -/
def Sl (w : World) (l : List D) (fp : List Nat) (v : Value) : Prop := R w (.sl l) fp [v]

theorem Sl.form {w : World} {l : List D} {fp : List Nat} {v : Value} (h : Sl w l fp v) : ∃ A cap, v = .slice A l.length cap ∧ l.length ≤ cap ∧ cap ≤ maxLen := by
  unfold Sl at h
  rw [R] at h
  obtain ⟨A, cap, h1, h2, h3, _⟩ := h
  simp only [List.cons.injEq, and_true] at h1
  exact ⟨A, cap, h1, h2, h3⟩

/-- Inside a round: element k, its cells, and where they lie. -/
theorem Sl.elem {w : World} {s : Nat} {l : List D} {fp : List Nat} {A : Option Addr} {n cap : Nat} (h : Sl w l fp (.slice A n cap)) (hs : ∀ d ∈ l, d.sz = s) {k : Nat} {d : D} (hd : l[k]? = some d) :
    ∃ b o fi ci, A = some ⟨b, o, none⟩ ∧ b < w.heap.size ∧ b ∈ fp ∧ R w d fi ci ∧ (∀ x ∈ fi, x ∈ fp) ∧ At w b (o + k * s) ci := by
  unfold Sl at h
  rw [R] at h
  obtain ⟨A', cap', h1, _, _, h3⟩ := h
  simp only [List.cons.injEq, and_true, Value.slice.injEq] at h1
  obtain ⟨rfl, rfl, rfl⟩ := h1
  rcases h3 with ⟨rfl, _⟩ | ⟨b, o, fp', cs', rfl, rfl, hb, hr, ha⟩
  · simp at hd
  · obtain ⟨fi, ci, h4, h5, h6⟩ := hr.get hs hd
    exact ⟨b, o, fi, ci, rfl, hb, by simp, h4, fun x hx => by simp [h5 x hx], fun j u hj => by
      have := ha _ u (h6 j u hj)
      rwa [← Nat.add_assoc] at this⟩

theorem Sl.below {w w' : World} {l : List D} {fp : List Nat} {v : Value} (h : Sl w l fp v) (hb : Below w.heap.size w w') : Sl w' l fp v := R.below h hb

/-! ### Owned memory -/
/-- The blocks are fresh from `base` on, each is there once, and none is frozen. -/
def Free (w : World) (base : Nat) (fp : List Nat) : Prop := fp.Nodup ∧ ∀ b ∈ fp, base ≤ b ∧ ∀ o, w.frozen? ⟨b, o, none⟩ = false

theorem Free.nil {w : World} {base : Nat} : Free w base [] := ⟨List.nodup_nil, fun _ h => by simp at h⟩
theorem Free.same {w w' : World} {base : Nat} {fp : List Nat} (h : Free w base fp) (hs : ∀ b ∈ fp, w'.heap[b]? = w.heap[b]?) : Free w' base fp :=
  ⟨h.1, fun b hb => ⟨(h.2 b hb).1, fun o => by rw [World.frozen?_of_block (w := w) (hs b hb)]; exact (h.2 b hb).2 o⟩⟩
theorem Free.mono {w : World} {base base' : Nat} {fp : List Nat} (h : Free w base fp) (hb : base' ≤ base) : Free w base' fp :=
  ⟨h.1, fun b hm => ⟨Nat.le_trans hb (h.2 b hm).1, (h.2 b hm).2⟩⟩

/-- What an append-loop owns, with its elements read: as a slice that reads as a list. -/
theorem Sl.of_own {w : World} {base : Nat} {e : TypeId} {s : Nat} {v : Value} {l : List D} {fp : List Nat} {cs : List Value} (h : w.ownsRow base e s v l.length cs) (hr : Rs w l fp cs) :
    Sl w l (v.ownBlock.toList ++ fp) v := by
  unfold Sl
  rw [R]
  obtain ⟨h1, h2⟩ := h
  rcases h2 with ⟨rfl, h3⟩ | ⟨g, cap, cur, rfl, hg, hh, hn, hm, hsz, ht⟩
  · have hl : l = [] := List.eq_nil_of_length_eq_zero h3
    subst hl
    exact ⟨none, 0, by simp, by simp, by simp, Or.inl ⟨rfl, by simpa [Value.ownBlock] using hr.1⟩⟩
  · refine ⟨some ⟨g, 0, none⟩, cap, rfl, hn, hm, Or.inr ⟨g, 0, fp, cs, rfl, by simp [Value.ownBlock], ?_, hr, fun j u hj => ?_⟩⟩
    · rcases Nat.lt_or_ge g w.heap.size with hlt | hge
      · exact hlt
      · rw [Array.getElem?_eq_none hge] at hh; cases hh
    · subst ht
      simp only [Nat.zero_add, World.cell?, hh]
      rw [List.getElem?_take] at hj
      split at hj
      · simpa using hj
      · cases hj
theorem Free.of_own {w : World} {base : Nat} {e : TypeId} {s n : Nat} {v : Value} {fp : List Nat} {cs : List Value} (h : w.ownsRow base e s v n cs) (hf : Free w base fp) (hn : ∀ g, v.ownBlock = some g → g ∉ fp) :
    Free w base (v.ownBlock.toList ++ fp) := by
  obtain ⟨h1, h2⟩ := h
  rcases h2 with ⟨rfl, h3⟩ | ⟨g, cap, cur, rfl, hg, hh, _⟩
  · simpa [Value.ownBlock] using hf
  · refine ⟨by simp only [Value.ownBlock, Option.toList, List.singleton_append, List.nodup_cons]; exact ⟨hn g rfl, hf.1⟩, fun b hb => ?_⟩
    simp only [Value.ownBlock, Option.toList, List.singleton_append, List.mem_cons] at hb
    rcases hb with rfl | hb
    · refine ⟨hg, fun o => ?_⟩
      simp only [World.frozen?, hh]
      simp
    · exact hf.2 b hb

/-! ### Weights; what the reading of arguments gives -/
def leafWf : Value → Prop
  | .int k n => (Lit.int k n).wf = true
  | .string s => s.size ≤ maxLen
  | _ => True
def leafWt : Value → Nat
  | .string s => s.size
  | _ => 0
mutual
def D.wf : D → Prop
  | .leaf v => leafWf v
  | .sl l => D.wfs l
  | .agg l => D.wfs l
def D.wfs : List D → Prop
  | [] => True
  | d :: l => d.wf ∧ D.wfs l
end
mutual
def D.wt : D → Nat
  | .leaf v => leafWt v
  | .sl l => l.length + D.wts l
  | .agg l => D.wts l
def D.wts : List D → Nat
  | [] => 0
  | d :: l => d.wt + D.wts l
end
theorem D.wfs_get : ∀ {l : List D}, D.wfs l → ∀ {d : D}, d ∈ l → d.wf
  | [], _, _, h => by simp at h
  | x :: l, hw, d, h => by
    rcases List.mem_cons.1 h with rfl | h
    · exact hw.1
    · exact D.wfs_get hw.2 h
theorem D.wts_drop (l : List D) (k : Nat) (hk : k < l.length) : D.wts (l.drop k) = (l[k]).wt + D.wts (l.drop (k + 1)) := by
  rw [List.drop_eq_getElem_cons hk, D.wts]

/-- What is left of a budget: the weight is taken off, or -1. -/
def SzRel (left : Int) (k : Nat) (r : Int) : Prop := (left < k ∧ r = -1) ∨ ((k : Int) ≤ left ∧ r = left - k)
def SzPost (left : Int) (k : Nat) (w : World) (e : Ending) (w' : World) : Prop := ∃ r : Int, e = .returned (.int .i64 r) ∧ SzRel left k r ∧ -1 ≤ r ∧ r ≤ left ∧ Below w.heap.size w w'
def SzSaid (P : Program) (f : Nat) (d : D) : Prop := ∀ (w : World) (fp : List Nat) (cs : List Value) (left : Int), R w d fp cs → d.wf → 0 ≤ left → left ≤ 1048576 → Calls P f #[.agg cs.toArray, .int .i64 left] w (SzPost left d.wt w)
def SzsSaid (P : Program) (f : Nat) (l : List D) : Prop := ∀ (w : World) (fp : List Nat) (v : Value) (left : Int), Sl w l fp v → D.wfs l → 0 ≤ left → left ≤ 1048576 → Calls P f #[v, .int .i64 left] w (SzPost left (l.length + D.wts l) w)

theorem SzRel.step {a b : Int} {j k : Nat} (h : SzRel a j b) {c : Int} (hb : 0 ≤ b) (h' : SzRel b k c) : SzRel a (j + k) c := by
  unfold SzRel at *
  omega
theorem SzRel.stop {a b : Int} {j : Nat} (h : SzRel a j b) (hb : b < 0) (k : Nat) : SzRel a (j + k) (-1) := by
  unfold SzRel at *
  omega
theorem SzRel.sub {a : Int} {k : Nat} (h : (k : Int) ≤ a) : SzRel a k (a - k) := by
  unfold SzRel
  omega
theorem SzRel.out {a : Int} {k : Nat} (h : a < k) : SzRel a k (-1) := by
  unfold SzRel
  omega
theorem SzRel.le {a b : Int} {j : Nat} (h : SzRel a j b) (hb : 0 ≤ b) : (j : Int) + b = a := by
  unfold SzRel at h
  omega

/-- Old cells, old marks, as before. -/
theorem bcell {B : Nat} {W w1 : World} (hb : Below B W w1) : (∀ b o, b < B → w1.cell? ⟨b, o, none⟩ = W.cell? ⟨b, o, none⟩) ∧ (∀ b o, b < B → w1.frozen? ⟨b, o, none⟩ = W.frozen? ⟨b, o, none⟩) :=
  ⟨fun b o h => hb.cell (p := ⟨b, o, none⟩) h, fun b o h => hb.frozen (p := ⟨b, o, none⟩) h⟩

theorem Sl.formT {α : Type} {f : α → D} {w : World} {l : List α} {fp : List Nat} {v : Value} (h : Sl w (l.map f) fp v) : ∃ A cap, v = .slice A l.length cap ∧ l.length ≤ cap ∧ cap ≤ maxLen := by
  obtain ⟨A, cap, h1, h2, h3⟩ := h.form
  rw [List.length_map] at h1 h2
  exact ⟨A, cap, h1, h2, h3⟩

/-! ### Copies: memory that is fresh -/
def ToPost (d : D) (w : World) (e : Ending) (w' : World) : Prop := ∃ fp cs, e = .returned (.agg cs.toArray) ∧ R w' d fp cs ∧ Free w' w.heap.size fp ∧ Below w.heap.size w w'
def TosPost (l : List D) (w : World) (e : Ending) (w' : World) : Prop := ∃ fp v, e = .returned v ∧ Sl w' l fp v ∧ Free w' w.heap.size fp ∧ Below w.heap.size w w'
def ToSaid (P : Program) (f : Nat) (d : D) : Prop := ∀ (w : World) (fp : List Nat) (cs : List Value), R w d fp cs → d.wt ≤ 1048576 → Calls P f #[.agg cs.toArray] w (ToPost d w)
def TosSaid (P : Program) (f : Nat) (l : List D) : Prop := ∀ (w : World) (fp : List Nat) (v : Value), Sl w l fp v → l.length + D.wts l ≤ 1048576 → Calls P f #[v] w (TosPost l w)

theorem D.wts_mem : ∀ {l : List D} {d : D}, d ∈ l → d.wt ≤ D.wts l
  | [], _, h => by simp at h
  | x :: l, d, h => by
    rcases List.mem_cons.1 h with rfl | h
    · rw [D.wts]; omega
    · have := D.wts_mem h
      rw [D.wts]; omega

/-- Cells set one behind the other. -/
def sets : List Value → Nat → List Value → List Value
  | xs, _, [] => xs
  | xs, i, c :: cs => sets (xs.set i c) (i + 1) cs
def setCells (w : World) (g i : Nat) (cs : List Value) : World :=
  match cs with
  | [] => w
  | c :: cs => setCells (w.setCell ⟨g, i, none⟩ c) g (i + 1) cs
theorem sets_length : ∀ (cs xs : List Value) (i : Nat), (sets xs i cs).length = xs.length
  | [], _, _ => rfl
  | c :: cs, xs, i => by rw [sets, sets_length cs, List.length_set]
theorem sets_take : ∀ (cs xs : List Value) (i : Nat), i + cs.length ≤ xs.length → (sets xs i cs).take (i + cs.length) = xs.take i ++ cs
  | [], xs, i, _ => by simp [sets]
  | c :: cs, xs, i, h => by
    rw [List.length_cons] at h
    rw [sets, List.length_cons, show i + (cs.length + 1) = (i + 1) + cs.length by omega, sets_take cs _ _ (by rw [List.length_set]; omega)]
    have : (xs.set i c).take (i + 1) = xs.take i ++ [c] := by
      rw [List.take_succ_eq_append_getElem (by rw [List.length_set]; omega), List.take_set_of_le (by omega), List.getElem_set_self]
    rw [this]; simp
/-- A block that is a row of cells, whole and not frozen. -/
def Row (w : World) (g : Nat) (e : TypeId) (xs : List Value) : Prop := w.heap[g]? = some (.cells xs.toArray e (0, 0))
theorem Row.lt {w : World} {g : Nat} {e : TypeId} {xs : List Value} (h : Row w g e xs) : g < w.heap.size := by
  rcases Nat.lt_or_ge g w.heap.size with hlt | hge
  · exact hlt
  · unfold Row at h; rw [Array.getElem?_eq_none hge] at h; cases h
theorem Row.cell {w : World} {g : Nat} {e : TypeId} {xs : List Value} (h : Row w g e xs) (i : Nat) : w.cell? ⟨g, i, none⟩ = xs[i]? := by
  unfold Row at h
  simp [World.cell?, h]
theorem Row.at_ {w : World} {g : Nat} {e : TypeId} {xs : List Value} (h : Row w g e xs) {i : Nat} (hi : i < xs.length) : w.cell? ⟨g, i, none⟩ = some xs[i] := by
  rw [h.cell, List.getElem?_eq_getElem hi]
theorem Row.frozen {w : World} {g : Nat} {e : TypeId} {xs : List Value} (h : Row w g e xs) (i : Nat) : w.frozen? ⟨g, i, none⟩ = false := by
  unfold Row at h
  simp [World.frozen?, h]
theorem Row.set {w : World} {g : Nat} {e : TypeId} {xs : List Value} (h : Row w g e xs) (i : Nat) (u : Value) : Row (w.setCell ⟨g, i, none⟩ u) g e (xs.set i u) := by
  unfold Row at h ⊢
  simp [World.setCell, Array.getElem?_modify, h]
theorem Row.sets {g : Nat} {e : TypeId} : ∀ (cs : List Value) {w : World} {xs : List Value} (_ : Row w g e xs) (i : Nat), Row (setCells w g i cs) g e (sets xs i cs)
  | [], _, _, h, _ => by rw [setCells]; exact h
  | c :: cs, _, _, h, i => by rw [setCells, Go.Proofs.YtdjcflnemnknaaaDoor.sets]; exact Row.sets cs (h.set i c) (i + 1)
theorem Row.same {w w' : World} {g : Nat} {e : TypeId} {xs : List Value} (h : Row w g e xs) (hs : w'.heap[g]? = w.heap[g]?) : Row w' g e xs := hs.trans h
theorem Row.below {w w' : World} {g : Nat} {e : TypeId} {xs : List Value} (h : Row w g e xs) (hb : Below w.heap.size w w') : Row w' g e xs := (hb.block g h.lt).trans h
theorem Row.new (w : World) (e : TypeId) (cs : Array Value) : Row (w.alloc (.cells cs e)) w.heap.size e cs.toList := by
  unfold Row
  exact heap_alloc_new w _
theorem setCells_far {g k : Nat} (hk : k ≠ g) : ∀ (cs : List Value) (w : World) (i : Nat), (setCells w g i cs).heap[k]? = w.heap[k]?
  | [], _, _ => by rw [setCells]
  | c :: cs, w, i => by rw [setCells, setCells_far hk cs]; exact Below.heap_setCell _ _ _ _ hk
theorem setCells_size {g : Nat} : ∀ (cs : List Value) (w : World) (i : Nat), (setCells w g i cs).heap.size = w.heap.size
  | [], _, _ => by rw [setCells]
  | c :: cs, w, i => by rw [setCells, setCells_size cs]; simp [World.setCell]
theorem setCells_below {B g : Nat} (hg : B ≤ g) {a : World} : ∀ (cs : List Value) {w : World} (_ : Below B a w) (i : Nat), Below B a (setCells w g i cs)
  | [], _, h, _ => by rw [setCells]; exact h
  | c :: cs, _, h, i => by rw [setCells]; exact setCells_below hg cs (h.setCell (p := ⟨g, i, none⟩) hg c) (i + 1)
/-- A whole row that holds a list of data, as a slice. -/
theorem Sl.of_row {w : World} {g : Nat} {e : TypeId} {xs : List Value} {l : List D} {fp : List Nat} {n : Nat} (h : Row w g e xs) (hr : Rs w l fp xs) (hn : l.length = n) (hm : n ≤ maxLen) : Sl w l (g :: fp) (.slice (some ⟨g, 0, none⟩) n n) := by
  subst hn
  unfold Sl
  rw [R]
  exact ⟨_, _, rfl, Nat.le_refl _, hm, Or.inr ⟨g, 0, fp, xs, rfl, rfl, h.lt, hr, fun j u hj => by rw [Nat.zero_add, h.cell, hj]⟩⟩
theorem Free.cons_row {w : World} {base g : Nat} {e : TypeId} {xs : List Value} {fp : List Nat} (h : Row w g e xs) (hg : base ≤ g) (hf : Free w (g + 1) fp) : Free w base (g :: fp) := by
  refine ⟨List.nodup_cons.2 ⟨fun hm => by have := (hf.2 g hm).1; omega, hf.1⟩, fun b hb => ?_⟩
  rcases List.mem_cons.1 hb with rfl | hb
  · exact ⟨hg, h.frozen⟩
  · exact ⟨by have := (hf.2 b hb).1; omega, (hf.2 b hb).2⟩
theorem Free.append {w : World} {base mid : Nat} {f1 f2 : List Nat} (h1 : Free w base f1) (hm : ∀ b ∈ f1, b < mid) (h2 : Free w mid f2) (hb : base ≤ mid) : Free w base (f1 ++ f2) := by
  refine ⟨List.nodup_append.2 ⟨h1.1, h2.1, fun a ha b hb' e => ?_⟩, fun b hb' => ?_⟩
  · have := hm a ha; have := (h2.2 b hb').1; omega
  · rcases List.mem_append.1 hb' with h | h
    · exact h1.2 b h
    · exact ⟨Nat.le_trans hb (h2.2 b h).1, (h2.2 b h).2⟩
theorem Free.below {w w' : World} {base : Nat} {fp : List Nat} (h : Free w base fp) (hl : ∀ b ∈ fp, b < w.heap.size) (hb : Below w.heap.size w w') : Free w' base fp := h.same fun b hm => hb.block b (hl b hm)
theorem Free.setCell {w : World} {base : Nat} {fp : List Nat} (h : Free w base fp) {p : Addr} (hp : p.block ∉ fp) (u : Value) : Free (w.setCell p u) base fp :=
  h.same fun b hm => Below.heap_setCell _ _ _ _ (fun e => hp (e ▸ hm))
theorem R.setCells {w : World} {d : D} {fp : List Nat} {cs : List Value} (h : R w d fp cs) {g : Nat} (hp : g ∉ fp) (i : Nat) (us : List Value) : R (setCells w g i us) d fp cs :=
  h.same (fun b hm => setCells_far (fun e : b = g => hp (e ▸ hm)) _ _ _) (by rw [setCells_size]; exact Nat.le_refl _)
theorem Rs.setCells {w : World} {d : List D} {fp : List Nat} {cs : List Value} (h : Rs w d fp cs) {g : Nat} (hp : g ∉ fp) (i : Nat) (us : List Value) : Rs (setCells w g i us) d fp cs :=
  h.same (fun b hm => setCells_far (fun e : b = g => hp (e ▸ hm)) _ _ _) (by rw [setCells_size]; exact Nat.le_refl _)
theorem Free.setCells {w : World} {base : Nat} {fp : List Nat} (h : Free w base fp) {g : Nat} (hp : g ∉ fp) (i : Nat) (us : List Value) : Free (setCells w g i us) base fp :=
  h.same fun b hm => setCells_far (fun e : b = g => hp (e ▸ hm)) _ _ _

/-! ### Kept: all as it was but for some blocks of the call's own -/
structure Kept (lo hi : Nat) (w w' : World) : Prop where
  os : w'.os = w.os
  tape : w'.tape = w.tape
  output : w'.output = w.output
  size : w.heap.size ≤ w'.heap.size
  block : ∀ k, k < w.heap.size → (k < lo ∨ hi ≤ k) → w'.heap[k]? = w.heap[k]?
theorem Kept.refl (lo hi : Nat) (w : World) : Kept lo hi w w := ⟨rfl, rfl, rfl, Nat.le_refl _, fun _ _ _ => rfl⟩
theorem Kept.trans {lo hi : Nat} {a b c : World} (h : Kept lo hi a b) (k : Kept lo hi b c) : Kept lo hi a c :=
  ⟨k.os.trans h.os, k.tape.trans h.tape, k.output.trans h.output, Nat.le_trans h.size k.size, fun i hi' ho => (k.block i (Nat.lt_of_lt_of_le hi' h.size) ho).trans (h.block i hi' ho)⟩
theorem Kept.below {lo hi : Nat} {a b c : World} (h : Kept lo hi a b) (k : Below b.heap.size b c) : Kept lo hi a c :=
  h.trans ⟨k.os, k.tape, k.output, k.size, fun i hi' _ => k.block i hi'⟩
theorem Kept.setCell {lo hi : Nat} {a b : World} (h : Kept lo hi a b) {p : Addr} (h1 : lo ≤ p.block) (h2 : p.block < hi) (u : Value) : Kept lo hi a (b.setCell p u) :=
  h.trans ⟨rfl, rfl, rfl, by simp [World.setCell], fun i hi' ho => Below.heap_setCell _ _ _ _ (by omega)⟩
theorem Kept.alloc {lo hi : Nat} {a b : World} (h : Kept lo hi a b) (o : Obj) : Kept lo hi a (b.alloc o) :=
  h.trans ⟨rfl, rfl, rfl, by simp, fun i hi' _ => Below.heap_alloc _ _ _ hi'⟩
theorem Kept.drew {lo hi : Nat} {a b : World} (h : Kept lo hi a b) : Kept lo hi a b.drew := h.trans ⟨rfl, rfl, rfl, Nat.le_refl _, fun _ _ _ => rfl⟩
theorem Kept.toBelow {lo hi B : Nat} {a b c : World} (h : Below B a b) (k : Kept lo hi b c) (hB : B ≤ lo) (hs : B ≤ b.heap.size) : Below B a c :=
  h.trans ⟨k.os, k.tape, k.output, k.size, fun i hi' => k.block i (by omega) (by omega)⟩
theorem R.kept {lo hi : Nat} {w w' : World} {d : D} {fp : List Nat} {cs : List Value} (h : R w d fp cs) (hk : Kept lo hi w w') (ho : ∀ b ∈ fp, b < lo ∨ hi ≤ b) : R w' d fp cs :=
  h.same (fun b hm => hk.block b (h.lt b hm) (ho b hm)) hk.size
theorem Sl.kept {lo hi : Nat} {w w' : World} {l : List D} {fp : List Nat} {v : Value} (h : Sl w l fp v) (hk : Kept lo hi w w') (ho : ∀ b ∈ fp, b < lo ∨ hi ≤ b) : Sl w' l fp v := R.kept h hk ho
theorem Free.kept {lo hi base : Nat} {w w' : World} {fp : List Nat} (h : Free w base fp) (hl : ∀ b ∈ fp, b < w.heap.size) (hk : Kept lo hi w w') (ho : ∀ b ∈ fp, b < lo ∨ hi ≤ b) : Free w' base fp :=
  h.same fun b hm => hk.block b (hl b hm) (ho b hm)
theorem Free.past {base hi lo : Nat} {w : World} {fp : List Nat} (h : Free w base fp) (hb : hi ≤ base) : ∀ b ∈ fp, b < lo ∨ hi ≤ b := fun b hm => Or.inr (Nat.le_trans hb (h.2 b hm).1)
theorem Row.far {w : World} {g : Nat} {e : TypeId} {xs : List Value} (h : Row w g e xs) {p : Addr} (hp : g ≠ p.block) (u : Value) : Row (w.setCell p u) g e xs := (Below.heap_setCell _ _ _ _ hp).trans h
theorem rows3 {w w1 : World} {a b c : Array Value} {ta tb tc : TypeId} (h : Below (((w.alloc (.cells a ta)).alloc (.cells b tb)).alloc (.cells c tc)).heap.size (((w.alloc (.cells a ta)).alloc (.cells b tb)).alloc (.cells c tc)) w1) :
    Row w1 w.heap.size ta a.toList ∧ Row w1 (w.heap.size + 1) tb b.toList ∧ Row w1 (w.heap.size + 2) tc c.toList ∧ w.heap.size + 3 ≤ w1.heap.size ∧ Below w.heap.size w w1 := by
  have e1 : (w.alloc (.cells a ta)).heap.size = w.heap.size + 1 := by simp
  have e2 : ((w.alloc (.cells a ta)).alloc (.cells b tb)).heap.size = w.heap.size + 2 := by simp
  have e3 : (((w.alloc (.cells a ta)).alloc (.cells b tb)).alloc (.cells c tc)).heap.size = w.heap.size + 3 := by simp
  have r0 := Row.new w ta a
  have r1 := Row.new (w.alloc (.cells a ta)) tb b
  have r2 := Row.new ((w.alloc (.cells a ta)).alloc (.cells b tb)) tc c
  rw [e1] at r1
  rw [e2] at r2
  refine ⟨?_, ?_, r2.below h, by have := h.size; omega, ?_⟩
  · exact Row.below (Row.same (Row.same r0 (Below.heap_alloc _ _ _ (by omega))) (Below.heap_alloc _ _ _ (by omega))) h
  · exact Row.below (Row.same r1 (Below.heap_alloc _ _ _ (by omega))) h
  · exact ((((Below.refl _ _).alloc (Nat.le_refl _) _).alloc (by omega) _).alloc (by omega) _).trans (h.mono (by omega))

/-- The end of a call that returns a struct: all that is read stands in world b already; behind it only the call's own blocks were written. -/
theorem ToPost.fin {lo hi : Nat} {d : D} {w b c : World} {fp : List Nat} {cs : List Value} (hK : Kept lo hi b c) (hr : R b d fp cs) (hf : Free b w.heap.size fp) (ho : ∀ x ∈ fp, x < lo ∨ hi ≤ x) (hb : Below w.heap.size w b) (hlo : w.heap.size ≤ lo) :
    ToPost d w (.returned (.agg cs.toArray)) c :=
  ⟨fp, cs, rfl, hr.kept hK ho, hf.kept hr.lt hK ho, Kept.toBelow hb hK hlo hb.size⟩
theorem past_append {lo hi : Nat} {f g : List Nat} (h : ∀ x ∈ f, x < lo ∨ hi ≤ x) (k : ∀ x ∈ g, x < lo ∨ hi ≤ x) : ∀ x ∈ f ++ g, x < lo ∨ hi ≤ x := fun x hx => by
  rcases List.mem_append.1 hx with h' | h'
  · exact h x h'
  · exact k x h'
theorem past_left {lo hi : Nat} {f g : List Nat} (h : ∀ x ∈ f ++ g, x < lo ∨ hi ≤ x) : ∀ x ∈ f, x < lo ∨ hi ≤ x := fun x hx => h x (List.mem_append_left _ hx)
theorem past_right {lo hi : Nat} {f g : List Nat} (h : ∀ x ∈ f ++ g, x < lo ∨ hi ≤ x) : ∀ x ∈ g, x < lo ∨ hi ≤ x := fun x hx => h x (List.mem_append_right _ hx)
theorem past_nil {lo hi : Nat} : ∀ x ∈ ([] : List Nat), x < lo ∨ hi ≤ x := fun x hx => by simp at hx

/-! ### Equal data -/
def TruePost (w : World) (e : Ending) (w' : World) : Prop := e = .returned (.bool true) ∧ Below w.heap.size w w'
def EqSaid (P : Program) (f : Nat) (d : D) : Prop := ∀ (w : World) (f1 f2 : List Nat) (c1 c2 : List Value), R w d f1 c1 → R w d f2 c2 → Calls P f #[.agg c1.toArray, .agg c2.toArray] w (TruePost w)
def EqsSaid (P : Program) (f : Nat) (l : List D) : Prop := ∀ (w : World) (f1 f2 : List Nat) (v1 v2 : Value), Sl w l f1 v1 → Sl w l f2 v2 → Calls P f #[v1, v2] w (TruePost w)
theorem rows2 {w w1 : World} {a b : Array Value} {ta tb : TypeId} (h : Below ((w.alloc (.cells a ta)).alloc (.cells b tb)).heap.size ((w.alloc (.cells a ta)).alloc (.cells b tb)) w1) :
    Row w1 w.heap.size ta a.toList ∧ Row w1 (w.heap.size + 1) tb b.toList ∧ w.heap.size + 2 ≤ w1.heap.size ∧ Below w.heap.size w w1 := by
  have e1 : (w.alloc (.cells a ta)).heap.size = w.heap.size + 1 := by simp
  have e2 : ((w.alloc (.cells a ta)).alloc (.cells b tb)).heap.size = w.heap.size + 2 := by simp
  have r0 := Row.new w ta a
  have r1 := Row.new (w.alloc (.cells a ta)) tb b
  rw [e1] at r1
  refine ⟨?_, r1.below h, by have := h.size; omega, ?_⟩
  · exact Row.below (Row.same r0 (Below.heap_alloc _ _ _ (by omega))) h
  · exact (((Below.refl _ _).alloc (Nat.le_refl _) _).alloc (by omega) _).trans (h.mono (by omega))
theorem rows1 {w w1 : World} {a : Array Value} {ta : TypeId} (h : Below (w.alloc (.cells a ta)).heap.size (w.alloc (.cells a ta)) w1) :
    Row w1 w.heap.size ta a.toList ∧ w.heap.size + 1 ≤ w1.heap.size ∧ Below w.heap.size w w1 := by
  have e1 : (w.alloc (.cells a ta)).heap.size = w.heap.size + 1 := by simp
  exact ⟨(Row.new w ta a).below h, by have := h.size; omega, ((Below.refl _ _).alloc (Nat.le_refl _) _).trans (h.mono (by omega))⟩
theorem below_drewN {B : Nat} {a w : World} (h : Below B a w) (n : Nat) : Below B a (w.drewN n) := ⟨h.os, h.tape, h.output, h.size, h.block⟩

end Go.Proofs.YtdjcflnemnknaaaDoor

namespace Go.Proofs.YtdjcflnemnknaaaDoor
open Go.RowKit
set_option linter.unusedSimpArgs false

def li (n : Int) : D := .leaf (.int .i64 n)
def ls (s : ByteArray) : D := .leaf (.string s)
theorem li_sz (n : Int) : (li n).sz = 1 := rfl
theorem ls_sz (s : ByteArray) : (ls s).sz = 1 := rfl
theorem li_szs {l : List Int} : ∀ d ∈ l.map li, d.sz = 1 := fun d h => by obtain ⟨_, _, rfl⟩ := List.mem_map.1 h; rfl
theorem ls_szs {l : List ByteArray} : ∀ d ∈ l.map ls, d.sz = 1 := fun d h => by obtain ⟨_, _, rfl⟩ := List.mem_map.1 h; rfl

/-! The parts of a struct, cell by cell. -/
section
variable {w : World} {fp : List Nat} {cs : List Value} {l l' : List D}
theorem R_agg : R w (.agg l) fp cs = Rs w l fp cs := by rw [R]
theorem R_leaf {v : Value} : R w (.leaf v) fp cs = (fp = [] ∧ cs = [v]) := by rw [R]
theorem Rs_nil : Rs w [] fp cs = (fp = [] ∧ cs = []) := by rw [Rs]
theorem Rs_leaf {v : Value} : Rs w (.leaf v :: l) fp cs ↔ ∃ c, cs = v :: c ∧ Rs w l fp c := by
  rw [Rs]
  constructor
  · rintro ⟨f1, f2, c1, c2, rfl, rfl, ⟨rfl, rfl⟩, h⟩
    exact ⟨c2, rfl, h⟩
  · rintro ⟨c, rfl, h⟩
    exact ⟨[], fp, [v], c, rfl, rfl, ⟨rfl, rfl⟩, h⟩
theorem Rs_sl : Rs w (.sl l' :: l) fp cs ↔ ∃ v c f1 f2, fp = f1 ++ f2 ∧ cs = v :: c ∧ Sl w l' f1 v ∧ Rs w l f2 c := by
  rw [Rs]
  constructor
  · rintro ⟨f1, f2, c1, c2, rfl, rfl, h1, h2⟩
    have h := h1
    rw [R] at h
    obtain ⟨A, cap, rfl, _⟩ := h
    exact ⟨_, c2, f1, f2, rfl, rfl, h1, h2⟩
  · rintro ⟨v, c, f1, f2, rfl, rfl, h1, h2⟩
    exact ⟨f1, f2, [v], c, rfl, rfl, h1, h2⟩
theorem Rs_agg : Rs w (.agg l' :: l) fp cs ↔ Rs w (l' ++ l) fp cs := by
  constructor
  · intro h
    rw [Rs] at h
    obtain ⟨f1, f2, c1, c2, rfl, rfl, h1, h2⟩ := h
    rw [R_agg] at h1
    exact Rs.append h2 h1
  · intro h
    obtain ⟨f1, f2, c1, c2, rfl, rfl, h1, h2⟩ := Rs.split h
    rw [Rs]
    exact ⟨f1, f2, c1, c2, rfl, rfl, by rw [R_agg]; exact h1, h2⟩
end

structure GOrigin where
  cell : Int
  row : Int
def GOrigin.toD (x : GOrigin) : D := .agg [li x.cell, li x.row]
theorem GOrigin.toD_eq (x : GOrigin) : x.toD = .agg [li x.cell, li x.row] := rfl
theorem GOrigin.sz_eq (x : GOrigin) : x.toD.sz = 2 := by simp [GOrigin.toD_eq, D.sz, D.szs, li, ls]
theorem GOrigin.szs {l : List GOrigin} : ∀ d ∈ l.map GOrigin.toD, d.sz = 2 := fun d h => by obtain ⟨x, _, rfl⟩ := List.mem_map.1 h; exact x.sz_eq
theorem GOrigin.opened {w : World} {fp : List Nat} {cs : List Value} {x : GOrigin} : R w x.toD fp cs ↔ fp = [] ∧ cs = [.int .i64 x.cell, .int .i64 x.row] := by
  rw [GOrigin.toD_eq, R_agg]
  simp only [Rs_agg, List.cons_append, List.nil_append, li, ls, Rs_leaf, Rs_sl, Rs_nil]
  constructor
  · rintro ⟨_, rfl, ⟨_, rfl, ⟨rfl, rfl⟩⟩⟩
    exact ⟨rfl, rfl⟩
  · rintro ⟨rfl, rfl⟩
    exact ⟨_, rfl, ⟨_, rfl, ⟨rfl, rfl⟩⟩⟩

structure GRow where
  cells : List Int
  src : List GOrigin
def GRow.toD (x : GRow) : D := .agg [.sl (x.cells.map li), .sl (x.src.map GOrigin.toD)]
theorem GRow.toD_eq (x : GRow) : x.toD = .agg [.sl (x.cells.map li), .sl (x.src.map GOrigin.toD)] := rfl
theorem GRow.sz_eq (x : GRow) : x.toD.sz = 2 := by simp [GRow.toD_eq, D.sz, D.szs, li, ls]
theorem GRow.szs {l : List GRow} : ∀ d ∈ l.map GRow.toD, d.sz = 2 := fun d h => by obtain ⟨x, _, rfl⟩ := List.mem_map.1 h; exact x.sz_eq
theorem GRow.opened {w : World} {fp : List Nat} {cs : List Value} {x : GRow} : R w x.toD fp cs ↔ ∃ v0 v1 f0 f1, fp = f0 ++ f1 ∧ cs = [v0, v1] ∧ Sl w (x.cells.map li) f0 v0 ∧ Sl w (x.src.map GOrigin.toD) f1 v1 := by
  rw [GRow.toD_eq, R_agg]
  simp only [Rs_agg, List.cons_append, List.nil_append, li, ls, Rs_leaf, Rs_sl, Rs_nil]
  constructor
  · rintro ⟨_, _, _, _, rfl, rfl, h0, ⟨_, _, _, _, rfl, rfl, h1, ⟨rfl, rfl⟩⟩⟩
    exact ⟨_, _, _, _, by simp, rfl, h0, h1⟩
  · rintro ⟨v0, v1, f0, f1, rfl, rfl, h0, h1⟩
    exact ⟨_, _, _, _, rfl, rfl, h0, ⟨_, _, _, _, (List.append_nil _).symm, rfl, h1, ⟨rfl, rfl⟩⟩⟩

inductive GVal where
  | mk (kind : Int) (n : Int) (step : Int) (text : ByteArray) (list : List GVal) (cols : List ByteArray) (rows : List GRow)
def GVal.kind : GVal → Int | .mk kind _ _ _ _ _ _ => kind
def GVal.n : GVal → Int | .mk _ n _ _ _ _ _ => n
def GVal.step : GVal → Int | .mk _ _ step _ _ _ _ => step
def GVal.text : GVal → ByteArray | .mk _ _ _ text _ _ _ => text
def GVal.list : GVal → List GVal | .mk _ _ _ _ list _ _ => list
def GVal.cols : GVal → List ByteArray | .mk _ _ _ _ _ cols _ => cols
def GVal.rows : GVal → List GRow | .mk _ _ _ _ _ _ rows => rows
mutual
def GVal.toD : GVal → D
  | .mk kind n step text list cols rows => .agg [li kind, li n, li step, ls text, .sl (GVal.toDs list), .sl (cols.map ls), .sl (rows.map GRow.toD)]
def GVal.toDs : List GVal → List D
  | [] => []
  | x :: l => x.toD :: GVal.toDs l
end
theorem GVal.toDs_eq (l : List GVal) : GVal.toDs l = l.map GVal.toD := by
  induction l with
  | nil => rfl
  | cons x l ih => rw [GVal.toDs, ih]; rfl
theorem GVal.lt_of_mem {x y : GVal} (h : y ∈ x.list) : SizeOf.sizeOf y < SizeOf.sizeOf x := by
  cases x with
  | mk kind n step text list cols rows =>
    have := List.sizeOf_lt_of_mem h
    simp only [GVal.list] at this
    simp only [GVal.mk.sizeOf_spec]
    omega
theorem GVal.toD_eq (x : GVal) : x.toD = .agg [li x.kind, li x.n, li x.step, ls x.text, .sl (x.list.map GVal.toD), .sl (x.cols.map ls), .sl (x.rows.map GRow.toD)] := by
  cases x with
  | mk kind n step text list cols rows => rw [GVal.toD, GVal.toDs_eq]; rfl
theorem GVal.sz_eq (x : GVal) : x.toD.sz = 7 := by simp [GVal.toD_eq, D.sz, D.szs, li, ls]
theorem GVal.szs {l : List GVal} : ∀ d ∈ l.map GVal.toD, d.sz = 7 := fun d h => by obtain ⟨x, _, rfl⟩ := List.mem_map.1 h; exact x.sz_eq
theorem GVal.opened {w : World} {fp : List Nat} {cs : List Value} {x : GVal} : R w x.toD fp cs ↔ ∃ v0 v1 v2 f0 f1 f2, fp = f0 ++ (f1 ++ f2) ∧ cs = [.int .i64 x.kind, .int .i64 x.n, .int .i64 x.step, .string x.text, v0, v1, v2] ∧ Sl w (x.list.map GVal.toD) f0 v0 ∧ Sl w (x.cols.map ls) f1 v1 ∧ Sl w (x.rows.map GRow.toD) f2 v2 := by
  rw [GVal.toD_eq, R_agg]
  simp only [Rs_agg, List.cons_append, List.nil_append, li, ls, Rs_leaf, Rs_sl, Rs_nil]
  constructor
  · rintro ⟨_, rfl, ⟨_, rfl, ⟨_, rfl, ⟨_, rfl, ⟨_, _, _, _, rfl, rfl, h0, ⟨_, _, _, _, rfl, rfl, h1, ⟨_, _, _, _, rfl, rfl, h2, ⟨rfl, rfl⟩⟩⟩⟩⟩⟩⟩⟩
    exact ⟨_, _, _, _, _, _, by simp, rfl, h0, h1, h2⟩
  · rintro ⟨v0, v1, v2, f0, f1, f2, rfl, rfl, h0, h1, h2⟩
    exact ⟨_, rfl, ⟨_, rfl, ⟨_, rfl, ⟨_, rfl, ⟨_, _, _, _, rfl, rfl, h0, ⟨_, _, _, _, rfl, rfl, h1, ⟨_, _, _, _, (List.append_nil _).symm, rfl, h2, ⟨rfl, rfl⟩⟩⟩⟩⟩⟩⟩⟩

structure GTok where
  kind : Int
  n : Int
  pos : Int
  text : ByteArray
def GTok.toD (x : GTok) : D := .agg [li x.kind, li x.n, li x.pos, ls x.text]
theorem GTok.toD_eq (x : GTok) : x.toD = .agg [li x.kind, li x.n, li x.pos, ls x.text] := rfl
theorem GTok.sz_eq (x : GTok) : x.toD.sz = 4 := by simp [GTok.toD_eq, D.sz, D.szs, li, ls]
theorem GTok.szs {l : List GTok} : ∀ d ∈ l.map GTok.toD, d.sz = 4 := fun d h => by obtain ⟨x, _, rfl⟩ := List.mem_map.1 h; exact x.sz_eq
theorem GTok.opened {w : World} {fp : List Nat} {cs : List Value} {x : GTok} : R w x.toD fp cs ↔ fp = [] ∧ cs = [.int .i64 x.kind, .int .i64 x.n, .int .i64 x.pos, .string x.text] := by
  rw [GTok.toD_eq, R_agg]
  simp only [Rs_agg, List.cons_append, List.nil_append, li, ls, Rs_leaf, Rs_sl, Rs_nil]
  constructor
  · rintro ⟨_, rfl, ⟨_, rfl, ⟨_, rfl, ⟨_, rfl, ⟨rfl, rfl⟩⟩⟩⟩⟩
    exact ⟨rfl, rfl⟩
  · rintro ⟨rfl, rfl⟩
    exact ⟨_, rfl, ⟨_, rfl, ⟨_, rfl, ⟨_, rfl, ⟨rfl, rfl⟩⟩⟩⟩⟩

inductive GExpr where
  | mk (kind : Int) (n : Int) (text : ByteArray) (args : List GExpr)
def GExpr.kind : GExpr → Int | .mk kind _ _ _ => kind
def GExpr.n : GExpr → Int | .mk _ n _ _ => n
def GExpr.text : GExpr → ByteArray | .mk _ _ text _ => text
def GExpr.args : GExpr → List GExpr | .mk _ _ _ args => args
mutual
def GExpr.toD : GExpr → D
  | .mk kind n text args => .agg [li kind, li n, ls text, .sl (GExpr.toDs args)]
def GExpr.toDs : List GExpr → List D
  | [] => []
  | x :: l => x.toD :: GExpr.toDs l
end
theorem GExpr.toDs_eq (l : List GExpr) : GExpr.toDs l = l.map GExpr.toD := by
  induction l with
  | nil => rfl
  | cons x l ih => rw [GExpr.toDs, ih]; rfl
theorem GExpr.lt_of_mem {x y : GExpr} (h : y ∈ x.args) : SizeOf.sizeOf y < SizeOf.sizeOf x := by
  cases x with
  | mk kind n text args =>
    have := List.sizeOf_lt_of_mem h
    simp only [GExpr.args] at this
    simp only [GExpr.mk.sizeOf_spec]
    omega
theorem GExpr.toD_eq (x : GExpr) : x.toD = .agg [li x.kind, li x.n, ls x.text, .sl (x.args.map GExpr.toD)] := by
  cases x with
  | mk kind n text args => rw [GExpr.toD, GExpr.toDs_eq]; rfl
theorem GExpr.sz_eq (x : GExpr) : x.toD.sz = 4 := by simp [GExpr.toD_eq, D.sz, D.szs, li, ls]
theorem GExpr.szs {l : List GExpr} : ∀ d ∈ l.map GExpr.toD, d.sz = 4 := fun d h => by obtain ⟨x, _, rfl⟩ := List.mem_map.1 h; exact x.sz_eq
theorem GExpr.opened {w : World} {fp : List Nat} {cs : List Value} {x : GExpr} : R w x.toD fp cs ↔ ∃ v0 f0, fp = f0 ∧ cs = [.int .i64 x.kind, .int .i64 x.n, .string x.text, v0] ∧ Sl w (x.args.map GExpr.toD) f0 v0 := by
  rw [GExpr.toD_eq, R_agg]
  simp only [Rs_agg, List.cons_append, List.nil_append, li, ls, Rs_leaf, Rs_sl, Rs_nil]
  constructor
  · rintro ⟨_, rfl, ⟨_, rfl, ⟨_, rfl, ⟨_, _, _, _, rfl, rfl, h0, ⟨rfl, rfl⟩⟩⟩⟩⟩
    exact ⟨_, _, by simp, rfl, h0⟩
  · rintro ⟨v0, f0, rfl, rfl, h0⟩
    exact ⟨_, rfl, ⟨_, rfl, ⟨_, rfl, ⟨_, _, _, _, (List.append_nil _).symm, rfl, h0, ⟨rfl, rfl⟩⟩⟩⟩⟩

structure GCell where
  id : Int
  ver : Int
  kind : Int
  name : ByteArray
  code : ByteArray
  n : Int
def GCell.toD (x : GCell) : D := .agg [li x.id, li x.ver, li x.kind, ls x.name, ls x.code, li x.n]
theorem GCell.toD_eq (x : GCell) : x.toD = .agg [li x.id, li x.ver, li x.kind, ls x.name, ls x.code, li x.n] := rfl
theorem GCell.sz_eq (x : GCell) : x.toD.sz = 6 := by simp [GCell.toD_eq, D.sz, D.szs, li, ls]
theorem GCell.szs {l : List GCell} : ∀ d ∈ l.map GCell.toD, d.sz = 6 := fun d h => by obtain ⟨x, _, rfl⟩ := List.mem_map.1 h; exact x.sz_eq
theorem GCell.opened {w : World} {fp : List Nat} {cs : List Value} {x : GCell} : R w x.toD fp cs ↔ fp = [] ∧ cs = [.int .i64 x.id, .int .i64 x.ver, .int .i64 x.kind, .string x.name, .string x.code, .int .i64 x.n] := by
  rw [GCell.toD_eq, R_agg]
  simp only [Rs_agg, List.cons_append, List.nil_append, li, ls, Rs_leaf, Rs_sl, Rs_nil]
  constructor
  · rintro ⟨_, rfl, ⟨_, rfl, ⟨_, rfl, ⟨_, rfl, ⟨_, rfl, ⟨_, rfl, ⟨rfl, rfl⟩⟩⟩⟩⟩⟩⟩
    exact ⟨rfl, rfl⟩
  · rintro ⟨rfl, rfl⟩
    exact ⟨_, rfl, ⟨_, rfl, ⟨_, rfl, ⟨_, rfl, ⟨_, rfl, ⟨_, rfl, ⟨rfl, rfl⟩⟩⟩⟩⟩⟩⟩

structure GNb where
  cells : List GCell
def GNb.toD (x : GNb) : D := .agg [.sl (x.cells.map GCell.toD)]
theorem GNb.toD_eq (x : GNb) : x.toD = .agg [.sl (x.cells.map GCell.toD)] := rfl
theorem GNb.sz_eq (x : GNb) : x.toD.sz = 1 := by simp [GNb.toD_eq, D.sz, D.szs, li, ls]
theorem GNb.szs {l : List GNb} : ∀ d ∈ l.map GNb.toD, d.sz = 1 := fun d h => by obtain ⟨x, _, rfl⟩ := List.mem_map.1 h; exact x.sz_eq
theorem GNb.opened {w : World} {fp : List Nat} {cs : List Value} {x : GNb} : R w x.toD fp cs ↔ ∃ v0 f0, fp = f0 ∧ cs = [v0] ∧ Sl w (x.cells.map GCell.toD) f0 v0 := by
  rw [GNb.toD_eq, R_agg]
  simp only [Rs_agg, List.cons_append, List.nil_append, li, ls, Rs_leaf, Rs_sl, Rs_nil]
  constructor
  · rintro ⟨_, _, _, _, rfl, rfl, h0, ⟨rfl, rfl⟩⟩
    exact ⟨_, _, by simp, rfl, h0⟩
  · rintro ⟨v0, f0, rfl, rfl, h0⟩
    exact ⟨_, _, _, _, (List.append_nil _).symm, rfl, h0, ⟨rfl, rfl⟩⟩

structure GPart where
  kind : Int
  name : ByteArray
  expr : GExpr
  value : GVal
  pos : Int
def GPart.toD (x : GPart) : D := .agg [li x.kind, ls x.name, GExpr.toD x.expr, GVal.toD x.value, li x.pos]
theorem GPart.toD_eq (x : GPart) : x.toD = .agg [li x.kind, ls x.name, GExpr.toD x.expr, GVal.toD x.value, li x.pos] := rfl
theorem GPart.sz_eq (x : GPart) : x.toD.sz = 14 := by simp [GPart.toD_eq, GExpr.toD_eq, GVal.toD_eq, D.sz, D.szs, li, ls]
theorem GPart.szs {l : List GPart} : ∀ d ∈ l.map GPart.toD, d.sz = 14 := fun d h => by obtain ⟨x, _, rfl⟩ := List.mem_map.1 h; exact x.sz_eq
theorem GPart.opened {w : World} {fp : List Nat} {cs : List Value} {x : GPart} : R w x.toD fp cs ↔ ∃ v0 v1 v2 v3 f0 f1 f2 f3, fp = f0 ++ (f1 ++ (f2 ++ f3)) ∧ cs = [.int .i64 x.kind, .string x.name, .int .i64 x.expr.kind, .int .i64 x.expr.n, .string x.expr.text, v0, .int .i64 x.value.kind, .int .i64 x.value.n, .int .i64 x.value.step, .string x.value.text, v1, v2, v3, .int .i64 x.pos] ∧ Sl w (x.expr.args.map GExpr.toD) f0 v0 ∧ Sl w (x.value.list.map GVal.toD) f1 v1 ∧ Sl w (x.value.cols.map ls) f2 v2 ∧ Sl w (x.value.rows.map GRow.toD) f3 v3 := by
  rw [GPart.toD_eq, R_agg]
  simp only [GExpr.toD_eq, GVal.toD_eq, Rs_agg, List.cons_append, List.nil_append, li, ls, Rs_leaf, Rs_sl, Rs_nil]
  constructor
  · rintro ⟨_, rfl, ⟨_, rfl, ⟨_, rfl, ⟨_, rfl, ⟨_, rfl, ⟨_, _, _, _, rfl, rfl, h0, ⟨_, rfl, ⟨_, rfl, ⟨_, rfl, ⟨_, rfl, ⟨_, _, _, _, rfl, rfl, h1, ⟨_, _, _, _, rfl, rfl, h2, ⟨_, _, _, _, rfl, rfl, h3, ⟨_, rfl, ⟨rfl, rfl⟩⟩⟩⟩⟩⟩⟩⟩⟩⟩⟩⟩⟩⟩⟩
    exact ⟨_, _, _, _, _, _, _, _, by simp, rfl, h0, h1, h2, h3⟩
  · rintro ⟨v0, v1, v2, v3, f0, f1, f2, f3, rfl, rfl, h0, h1, h2, h3⟩
    exact ⟨_, rfl, ⟨_, rfl, ⟨_, rfl, ⟨_, rfl, ⟨_, rfl, ⟨_, _, _, _, rfl, rfl, h0, ⟨_, rfl, ⟨_, rfl, ⟨_, rfl, ⟨_, rfl, ⟨_, _, _, _, rfl, rfl, h1, ⟨_, _, _, _, rfl, rfl, h2, ⟨_, _, _, _, (List.append_nil _).symm, rfl, h3, ⟨_, rfl, ⟨rfl, rfl⟩⟩⟩⟩⟩⟩⟩⟩⟩⟩⟩⟩⟩⟩⟩

structure GEdit where
  kind : Int
  pos : Int
  cell : GCell
def GEdit.toD (x : GEdit) : D := .agg [li x.kind, li x.pos, GCell.toD x.cell]
theorem GEdit.toD_eq (x : GEdit) : x.toD = .agg [li x.kind, li x.pos, GCell.toD x.cell] := rfl
theorem GEdit.sz_eq (x : GEdit) : x.toD.sz = 8 := by simp [GEdit.toD_eq, GCell.toD_eq, D.sz, D.szs, li, ls]
theorem GEdit.szs {l : List GEdit} : ∀ d ∈ l.map GEdit.toD, d.sz = 8 := fun d h => by obtain ⟨x, _, rfl⟩ := List.mem_map.1 h; exact x.sz_eq
theorem GEdit.opened {w : World} {fp : List Nat} {cs : List Value} {x : GEdit} : R w x.toD fp cs ↔ fp = [] ∧ cs = [.int .i64 x.kind, .int .i64 x.pos, .int .i64 x.cell.id, .int .i64 x.cell.ver, .int .i64 x.cell.kind, .string x.cell.name, .string x.cell.code, .int .i64 x.cell.n] := by
  rw [GEdit.toD_eq, R_agg]
  simp only [GCell.toD_eq, Rs_agg, List.cons_append, List.nil_append, li, ls, Rs_leaf, Rs_sl, Rs_nil]
  constructor
  · rintro ⟨_, rfl, ⟨_, rfl, ⟨_, rfl, ⟨_, rfl, ⟨_, rfl, ⟨_, rfl, ⟨_, rfl, ⟨_, rfl, ⟨rfl, rfl⟩⟩⟩⟩⟩⟩⟩⟩⟩
    exact ⟨rfl, rfl⟩
  · rintro ⟨rfl, rfl⟩
    exact ⟨_, rfl, ⟨_, rfl, ⟨_, rfl, ⟨_, rfl, ⟨_, rfl, ⟨_, rfl, ⟨_, rfl, ⟨_, rfl, ⟨rfl, rfl⟩⟩⟩⟩⟩⟩⟩⟩⟩

structure GRead where
  kind : Int
  n : Int
  time : Int
  text : ByteArray
  result : GVal
def GRead.toD (x : GRead) : D := .agg [li x.kind, li x.n, li x.time, ls x.text, GVal.toD x.result]
theorem GRead.toD_eq (x : GRead) : x.toD = .agg [li x.kind, li x.n, li x.time, ls x.text, GVal.toD x.result] := rfl
theorem GRead.sz_eq (x : GRead) : x.toD.sz = 11 := by simp [GRead.toD_eq, GVal.toD_eq, D.sz, D.szs, li, ls]
theorem GRead.szs {l : List GRead} : ∀ d ∈ l.map GRead.toD, d.sz = 11 := fun d h => by obtain ⟨x, _, rfl⟩ := List.mem_map.1 h; exact x.sz_eq
theorem GRead.opened {w : World} {fp : List Nat} {cs : List Value} {x : GRead} : R w x.toD fp cs ↔ ∃ v0 v1 v2 f0 f1 f2, fp = f0 ++ (f1 ++ f2) ∧ cs = [.int .i64 x.kind, .int .i64 x.n, .int .i64 x.time, .string x.text, .int .i64 x.result.kind, .int .i64 x.result.n, .int .i64 x.result.step, .string x.result.text, v0, v1, v2] ∧ Sl w (x.result.list.map GVal.toD) f0 v0 ∧ Sl w (x.result.cols.map ls) f1 v1 ∧ Sl w (x.result.rows.map GRow.toD) f2 v2 := by
  rw [GRead.toD_eq, R_agg]
  simp only [GVal.toD_eq, Rs_agg, List.cons_append, List.nil_append, li, ls, Rs_leaf, Rs_sl, Rs_nil]
  constructor
  · rintro ⟨_, rfl, ⟨_, rfl, ⟨_, rfl, ⟨_, rfl, ⟨_, rfl, ⟨_, rfl, ⟨_, rfl, ⟨_, rfl, ⟨_, _, _, _, rfl, rfl, h0, ⟨_, _, _, _, rfl, rfl, h1, ⟨_, _, _, _, rfl, rfl, h2, ⟨rfl, rfl⟩⟩⟩⟩⟩⟩⟩⟩⟩⟩⟩⟩
    exact ⟨_, _, _, _, _, _, by simp, rfl, h0, h1, h2⟩
  · rintro ⟨v0, v1, v2, f0, f1, f2, rfl, rfl, h0, h1, h2⟩
    exact ⟨_, rfl, ⟨_, rfl, ⟨_, rfl, ⟨_, rfl, ⟨_, rfl, ⟨_, rfl, ⟨_, rfl, ⟨_, rfl, ⟨_, _, _, _, rfl, rfl, h0, ⟨_, _, _, _, rfl, rfl, h1, ⟨_, _, _, _, (List.append_nil _).symm, rfl, h2, ⟨rfl, rfl⟩⟩⟩⟩⟩⟩⟩⟩⟩⟩⟩⟩

structure GTape where
  cell : Int
  ver : Int
  reads : List GRead
def GTape.toD (x : GTape) : D := .agg [li x.cell, li x.ver, .sl (x.reads.map GRead.toD)]
theorem GTape.toD_eq (x : GTape) : x.toD = .agg [li x.cell, li x.ver, .sl (x.reads.map GRead.toD)] := rfl
theorem GTape.sz_eq (x : GTape) : x.toD.sz = 3 := by simp [GTape.toD_eq, D.sz, D.szs, li, ls]
theorem GTape.szs {l : List GTape} : ∀ d ∈ l.map GTape.toD, d.sz = 3 := fun d h => by obtain ⟨x, _, rfl⟩ := List.mem_map.1 h; exact x.sz_eq
theorem GTape.opened {w : World} {fp : List Nat} {cs : List Value} {x : GTape} : R w x.toD fp cs ↔ ∃ v0 f0, fp = f0 ∧ cs = [.int .i64 x.cell, .int .i64 x.ver, v0] ∧ Sl w (x.reads.map GRead.toD) f0 v0 := by
  rw [GTape.toD_eq, R_agg]
  simp only [Rs_agg, List.cons_append, List.nil_append, li, ls, Rs_leaf, Rs_sl, Rs_nil]
  constructor
  · rintro ⟨_, rfl, ⟨_, rfl, ⟨_, _, _, _, rfl, rfl, h0, ⟨rfl, rfl⟩⟩⟩⟩
    exact ⟨_, _, by simp, rfl, h0⟩
  · rintro ⟨v0, f0, rfl, rfl, h0⟩
    exact ⟨_, rfl, ⟨_, rfl, ⟨_, _, _, _, (List.append_nil _).symm, rfl, h0, ⟨rfl, rfl⟩⟩⟩⟩

theorem GOrigin.wt_eq (x : GOrigin) : x.toD.wt = 0 := by
  simp [GOrigin.toD_eq, D.wt, D.wts, li, ls, leafWt] <;> omega
theorem GRow.wt_eq (x : GRow) : x.toD.wt = 0 + ((x.cells.map li).length + D.wts (x.cells.map li)) + ((x.src.map GOrigin.toD).length + D.wts (x.src.map GOrigin.toD)) := by
  simp [GRow.toD_eq, D.wt, D.wts, li, ls, leafWt] <;> omega
theorem GVal.wt_eq (x : GVal) : x.toD.wt = 0 + x.text.size + ((x.list.map GVal.toD).length + D.wts (x.list.map GVal.toD)) + ((x.cols.map ls).length + D.wts (x.cols.map ls)) + ((x.rows.map GRow.toD).length + D.wts (x.rows.map GRow.toD)) := by
  simp [GVal.toD_eq, D.wt, D.wts, li, ls, leafWt] <;> omega
theorem GTok.wt_eq (x : GTok) : x.toD.wt = 0 + x.text.size := by
  simp [GTok.toD_eq, D.wt, D.wts, li, ls, leafWt] <;> omega
theorem GExpr.wt_eq (x : GExpr) : x.toD.wt = 0 + x.text.size + ((x.args.map GExpr.toD).length + D.wts (x.args.map GExpr.toD)) := by
  simp [GExpr.toD_eq, D.wt, D.wts, li, ls, leafWt] <;> omega
theorem GCell.wt_eq (x : GCell) : x.toD.wt = 0 + x.name.size + x.code.size := by
  simp [GCell.toD_eq, D.wt, D.wts, li, ls, leafWt] <;> omega
theorem GNb.wt_eq (x : GNb) : x.toD.wt = 0 + ((x.cells.map GCell.toD).length + D.wts (x.cells.map GCell.toD)) := by
  simp [GNb.toD_eq, D.wt, D.wts, li, ls, leafWt] <;> omega
theorem GPart.wt_eq (x : GPart) : x.toD.wt = 0 + x.name.size + x.expr.toD.wt + x.value.toD.wt := by
  simp [GPart.toD_eq, D.wt, D.wts, li, ls, leafWt] <;> omega
theorem GEdit.wt_eq (x : GEdit) : x.toD.wt = 0 + x.cell.toD.wt := by
  simp [GEdit.toD_eq, D.wt, D.wts, li, ls, leafWt] <;> omega
theorem GRead.wt_eq (x : GRead) : x.toD.wt = 0 + x.text.size + x.result.toD.wt := by
  simp [GRead.toD_eq, D.wt, D.wts, li, ls, leafWt] <;> omega
theorem GTape.wt_eq (x : GTape) : x.toD.wt = 0 + ((x.reads.map GRead.toD).length + D.wts (x.reads.map GRead.toD)) := by
  simp [GTape.toD_eq, D.wt, D.wts, li, ls, leafWt] <;> omega
end Go.Proofs.YtdjcflnemnknaaaDoor

namespace Go.Proofs.YtdjcflnemnknaaaDoor
open Go.RowKit
set_option linter.unusedSimpArgs false
set_option linter.unusedVariables false

mutual
/-- Each leaf is one cell. -/
def D.one : D → Prop
  | .leaf v => v.oneCell' = true
  | .sl _ => True
  | .agg l => D.ones l
def D.ones : List D → Prop
  | [] => True
  | d :: l => d.one ∧ D.ones l
end
mutual
theorem R.one {w : World} : ∀ {d : D} {fp : List Nat} {cs : List Value}, R w d fp cs → d.one → ∀ u ∈ cs, u.oneCell' = true
  | .leaf v, _, _, h, ho, u, hu => by rw [h.2] at hu; simp at hu; subst hu; exact ho
  | .sl _, _, _, h, _, u, hu => by
    rw [R] at h
    obtain ⟨A, cap, rfl, _⟩ := h
    simp at hu
    subst hu
    rfl
  | .agg l, fp, cs, h, ho, u, hu => by
    rw [R] at h
    exact Rs.one_ h ho u hu
theorem Rs.one_ {w : World} : ∀ {l : List D} {fp : List Nat} {cs : List Value}, Rs w l fp cs → D.ones l → ∀ u ∈ cs, u.oneCell' = true
  | [], _, _, h, _, u, hu => by rw [h.2] at hu; simp at hu
  | d :: l, _, _, h, ho, u, hu => by
    obtain ⟨f1, f2, c1, c2, rfl, rfl, h1, h2⟩ := h
    rcases List.mem_append.1 hu with hu | hu
    · exact h1.one ho.1 u hu
    · exact Rs.one_ h2 ho.2 u hu
end
theorem D.ones_of : ∀ {l : List D}, (∀ d ∈ l, d.one) → D.ones l
  | [], _ => trivial
  | d :: l, h => ⟨h d (by simp), D.ones_of fun x hx => h x (by simp [hx])⟩

theorem run_append_of_nil {P : Program} {w : World} (base : Nat) (t ty e : TypeId) (i : TypeInfo) (size : Nat) (ht : P.underlying t = some (.slice e)) (hi : P.info? e = some i)
    (v : Value) (n : Nat) (xs : List Value) (hown : w.ownsRow base e size v n xs) (c : Nat) : (Builtin.append_ #[t, t] ty #[v, .slice none 0 c]).run P w = .ok v w := by
  rcases hown.2 with ⟨rfl, rfl⟩ | ⟨g, cap, cur, rfl, _, _, hnc, _⟩
  · simp [Builtin.append_, run_underlying ht, sizeOf, typeInfo, hi, Builtin.lenOf, Builtin.firstCells]
  · simp [Builtin.append_, run_underlying ht, sizeOf, typeInfo, hi, Builtin.lenOf, Builtin.firstCells, hnc, storeCells]

/-- A slice that reads as a list: its cells. -/
theorem Sl.cells {w : World} {l : List D} {fp : List Nat} {A : Option Addr} {m c : Nat} (h : Sl w l fp (.slice A m c)) : m = l.length ∧ ∃ fp' cs, Rs w l fp' cs ∧ (∀ b ∈ fp', b ∈ fp) ∧
    ((l = [] ∧ cs = []) ∨ ∃ b o, A = some ⟨b, o, none⟩ ∧ b < w.heap.size ∧ At w b o cs) := by
  unfold Sl at h
  rw [R] at h
  obtain ⟨A', cap', h1, _, _, h3⟩ := h
  simp only [List.cons.injEq, and_true, Value.slice.injEq] at h1
  obtain ⟨rfl, rfl, rfl⟩ := h1
  refine ⟨rfl, ?_⟩
  rcases h3 with ⟨rfl, rfl⟩ | ⟨b, o, fp', cs', rfl, rfl, hb, hr, ha⟩
  · exact ⟨[], [], ⟨rfl, rfl⟩, fun _ h => h, Or.inl ⟨rfl, rfl⟩⟩
  · exact ⟨fp', cs', hr, fun x hx => by simp [hx], Or.inr ⟨b, o, rfl, hb, ha⟩⟩

theorem run_append_sl {P : Program} {w : World} (base : Nat) (t ty e : TypeId) (i : TypeInfo) (z : Value) (size bytes : Nat) (ht : P.underlying t = some (.slice e)) (hi : P.info? e = some i) (hz : i.zero = some z)
    (hsize : i.size = size) (hby : i.bytes = bytes) (hzs : z.cells.size = size) (hsz : 0 < size)
    (v : Value) (n : Nat) (xs : List Value) (hown : w.ownsRow base e size v n xs)
    (l : List D) (fp : List Nat) (vx : Value) (hsl : Sl w l fp vx) (h1 : ∀ d ∈ l, d.one) (hds : ∀ d ∈ l, d.sz = size)
    (h63 : n + l.length ≤ maxLen) (hbytes : (n + l.length) * bytes ≤ 140737488355328) (hbase : base ≤ w.heap.size) :
    ∃ v' w' fp' cs, (Builtin.append_ #[t, t] ty #[v, vx]).run P w = .ok v' w' ∧ Rs w l fp' cs ∧ (∀ b ∈ fp', b ∈ fp) ∧ w'.ownsRow base e size v' (n + l.length) (xs ++ cs) ∧ w.grownBy w' v.ownBlock ∧
      (v'.ownBlock = v.ownBlock ∨ v'.ownBlock = some w.heap.size) := by
  obtain ⟨A, c, rfl, _, _⟩ := hsl.form
  obtain ⟨_, fp', cs, hr, hfp, hcs⟩ := hsl.cells
  have hlen : cs.length = l.length * size := by rw [hr.len, szs_const _ hds]
  rcases hcs with ⟨rfl, rfl⟩ | ⟨b, o, rfl, hb, ha⟩
  · cases A with
    | none => exact ⟨v, w, fp', [], run_append_of_nil base t ty e i size ht hi v n xs hown c, hr, hfp, by simpa using hown, World.grownBy.refl w _, .inl rfl⟩
    | some ad =>
      obtain ⟨v', w', hrun, h2, h3, _, h5⟩ := run_append_own_at (P := P) w base t ty e i z size bytes ht hi hz hsize hby hzs hsz v n xs hown ad 0 c [] (by simp) (fun j u hj => by simp at hj) (by simp) (by simpa using h63) (by simpa using hbytes) hbase
      exact ⟨v', w', fp', [], hrun, hr, hfp, by simpa using h2, h3, h5⟩
  · have hadd : ∀ j, (⟨b, o, none⟩ : Addr).add j = ⟨b, o + j, none⟩ := fun j => by
      unfold Addr.add
      split
      · next h => subst h; rfl
      · rfl
    obtain ⟨v', w', hrun, h2, h3, _, h5⟩ := run_append_own_at (P := P) w base t ty e i z size bytes ht hi hz hsize hby hzs hsz v n xs hown ⟨b, o, none⟩ l.length c cs hlen (fun j u hj => by rw [hadd]; exact ha j u hj) (hr.one_ (D.ones_of h1)) h63 hbytes hbase
    exact ⟨v', w', fp', cs, hrun, hr, hfp, h2, h3, h5⟩

theorem wp_append_sl {P : Program} {w : World} {o : Oper} {a : Act} {K : Act → World → Prop} {Q : Exit → Act → World → Prop} (s x : Operand) (t : TypeId)
    (ho : o.op = .call { callee := .builtin .append, args := #[s, x], argTypes := #[t, t] })
    (base : Nat) (e : TypeId) (i : TypeInfo) (z : Value) (size bytes : Nat) (ht : P.underlying t = some (.slice e)) (hi : P.info? e = some i) (hz : i.zero = some z)
    (hsize : i.size = size) (hby : i.bytes = bytes) (hzs : z.cells.size = size) (hsz : 0 < size)
    (v : Value) (n : Nat) (xs : List Value) (hs : a.eval s = v) (hown : w.ownsRow base e size v n xs)
    (l : List D) (fp : List Nat) (vx : Value) (hx : a.eval x = vx) (hsl : Sl w l fp vx) (h1 : ∀ d ∈ l, d.one) (hds : ∀ d ∈ l, d.sz = size)
    (h63 : n + l.length ≤ maxLen) (hbytes : (n + l.length) * bytes ≤ 140737488355328) (hbase : base ≤ w.heap.size)
    (h : ∀ v' w' fp' cs, Rs w l fp' cs → (∀ b ∈ fp', b ∈ fp) → w'.ownsRow base e size v' (n + l.length) (xs ++ cs) → w.grownBy w' v.ownBlock → (v'.ownBlock = v.ownBlock ∨ v'.ownBlock = some w.heap.size) → K (a.put o.dst v') w') : o.wp P a w K Q := by
  obtain ⟨v', w', fp', cs, hrun, hr, hfp, h2, h3, h4⟩ := run_append_sl (P := P) base t o.type e i z size bytes ht hi hz hsize hby hzs hsz v n xs hown l fp vx hsl h1 hds h63 hbytes hbase
  unfold Oper.wp execOp
  simp only [ho, resolve, invoke, builtin, Sem.run_bind, Sem.run_pure, Result.andThen_ok, List.map_toArray, List.map_cons, List.map_nil, hs, hx, hrun]
  exact h v' w' fp' cs hr hfp h2 h3 h4

theorem wpList_append_sl {P : Program} {w : World} {ops : Array Oper} {rest : List Oper} {o : Oper} {a : Act} {Q : Exit → Act → World → Prop} (hgd : o.guard = none) (s x : Operand) (t : TypeId)
    (ho : o.op = .call { callee := .builtin .append, args := #[s, x], argTypes := #[t, t] })
    (base : Nat) (e : TypeId) (i : TypeInfo) (z : Value) (size bytes : Nat) (ht : P.underlying t = some (.slice e)) (hi : P.info? e = some i) (hz : i.zero = some z)
    (hsize : i.size = size) (hby : i.bytes = bytes) (hzs : z.cells.size = size) (hsz : 0 < size)
    (v : Value) (n : Nat) (xs : List Value) (hs : a.eval s = v) (hown : w.ownsRow base e size v n xs)
    (l : List D) (fp : List Nat) (vx : Value) (hx : a.eval x = vx) (hsl : Sl w l fp vx) (h1 : ∀ d ∈ l, d.one) (hds : ∀ d ∈ l, d.sz = size)
    (h63 : n + l.length ≤ maxLen) (hbytes : (n + l.length) * bytes ≤ 140737488355328) (hbase : base ≤ w.heap.size)
    (h : ∀ v' w' fp' cs, Rs w l fp' cs → (∀ b ∈ fp', b ∈ fp) → w'.ownsRow base e size v' (n + l.length) (xs ++ cs) → w.grownBy w' v.ownBlock → (v'.ownBlock = v.ownBlock ∨ v'.ownBlock = some w.heap.size) → wpList P ops Q rest (a.put o.dst v') w') : wpList P ops Q (o :: rest) a w :=
  wpList_plain hgd fun _ hK => wp_append_sl s x t ho base e i z size bytes ht hi hz hsize hby hzs hsz v n xs hs hown l fp vx hx hsl h1 hds h63 hbytes hbase fun v' w' fp' cs h2 h3 h4 h5 h6 => hK _ _ (h v' w' fp' cs h2 h3 h4 h5 h6)
theorem Row.grown {w w' : World} {g : Nat} {e : TypeId} {xs : List Value} {row : Option Nat} (h : Row w g e xs) (hg : w.grownBy w' row) (hne : some g ≠ row) : Row w' g e xs := (hg.block g h.lt hne).trans h
/-- Behind two boxes, a third block, and what may have written to that one alone. -/
theorem grown3 {w w1 : World} {a b c : Array Value} {ta tb tc : TypeId} {row : Option Nat} (hg : (((w.alloc (.cells a ta)).alloc (.cells b tb)).alloc (.cells c tc)).grownBy w1 row) (hr : ∀ g, row = some g → w.heap.size + 2 ≤ g) :
    Row w1 w.heap.size ta a.toList ∧ Row w1 (w.heap.size + 1) tb b.toList ∧ w.heap.size + 3 ≤ w1.heap.size ∧ Below w.heap.size w w1 := by
  obtain ⟨h0, h1, h2, hz, hb⟩ := rows3 (Below.refl _ (((w.alloc (.cells a ta)).alloc (.cells b tb)).alloc (.cells c tc)))
  refine ⟨h0.grown hg (fun e => by have := hr _ e.symm; omega), h1.grown hg (fun e => by have := hr _ e.symm; omega), Nat.le_trans hz hg.size, hb.grown hg (by omega) (fun k hk => by have := hr _ hk; omega)⟩
theorem grown2 {w w1 : World} {a c : Array Value} {ta tc : TypeId} {row : Option Nat} (hg : ((w.alloc (.cells a ta)).alloc (.cells c tc)).grownBy w1 row) (hr : ∀ g, row = some g → w.heap.size + 1 ≤ g) :
    Row w1 w.heap.size ta a.toList ∧ w.heap.size + 2 ≤ w1.heap.size ∧ Below w.heap.size w w1 := by
  obtain ⟨h0, h1, hz, hb⟩ := rows2 (Below.refl _ ((w.alloc (.cells a ta)).alloc (.cells c tc)))
  refine ⟨h0.grown hg (fun e => by have := hr _ e.symm; omega), Nat.le_trans hz hg.size, hb.grown hg (by omega) (fun k hk => by have := hr _ hk; omega)⟩
theorem ownsRow_form {w : World} {base : Nat} {e : TypeId} {s : Nat} {v : Value} {n : Nat} {xs : List Value} (h : w.ownsRow base e s v n xs) : ∃ A c, v = .slice A n c := by
  rcases h.2 with ⟨rfl, rfl⟩ | ⟨g, cap, cur, rfl, _⟩
  · exact ⟨_, _, rfl⟩
  · exact ⟨_, _, rfl⟩
theorem ownsRow_below {w w' : World} {base : Nat} {e : TypeId} {s : Nat} {v : Value} {n : Nat} {xs : List Value} (h : w.ownsRow base e s v n xs) (hb : Below w.heap.size w w') : w'.ownsRow base e s v n xs := by
  obtain ⟨h1, h2⟩ := h
  refine ⟨h1, ?_⟩
  rcases h2 with h2 | ⟨g, cap, cur, hv, hg, hh, r⟩
  · exact Or.inl h2
  · refine Or.inr ⟨g, cap, cur, hv, hg, ?_, r⟩
    rw [hb.block]
    · exact hh
    · rcases Nat.lt_or_ge g w.heap.size with hlt | hge
      · exact hlt
      · rw [Array.getElem?_eq_none hge] at hh; cases hh
theorem ownsRow_far {w : World} {base : Nat} {e : TypeId} {s : Nat} {v : Value} {n : Nat} {xs : List Value} (h : w.ownsRow base e s v n xs) {a : Addr} (ha : v.ownBlock ≠ some a.block) (u : Value) : (w.setCell a u).ownsRow base e s v n xs := by
  obtain ⟨h1, h2⟩ := h
  refine ⟨h1, ?_⟩
  rcases h2 with h2 | ⟨g, cap, cur, hv, hg, hh, r⟩
  · exact Or.inl h2
  · refine Or.inr ⟨g, cap, cur, hv, hg, by rw [Below.heap_setCell _ _ _ _ (fun e => ha (by rw [hv, e]; rfl))]; exact hh, r⟩
theorem ownsRow_mono {w : World} {base base' : Nat} {e : TypeId} {s : Nat} {v : Value} {n : Nat} {xs : List Value} (h : w.ownsRow base e s v n xs) (hb : base' ≤ base) : w.ownsRow base' e s v n xs := by
  obtain ⟨h1, h2⟩ := h
  refine ⟨h1, ?_⟩
  rcases h2 with h2 | ⟨g, cap, cur, hv, hg, r⟩
  · exact Or.inl h2
  · exact Or.inr ⟨g, cap, cur, hv, Nat.le_trans hb hg, r⟩
end Go.Proofs.YtdjcflnemnknaaaDoor

namespace Go.Proofs.YtdjcflnemnknaaaDoor
open Go.RowKit Go.WideShapes Go.ChangeShapes Go.ChangeAt
set_option linter.unusedVariables false

section
variable {H : Type} {enc : TypeId × Value → H} {P : Program}
theorem post_of_below {f : Func} {s : ChangeSpec} {apart fresh handsOn again : Bool} {W W' : World} {args : Array Value} {v : Value} {ds gs : List (DataW H)} {before pa pv : List MemPlace}
    (hW : DataW.Whole enc P f.params.toList s.vars apart W args.toList ds gs before)
    (hres : ∀ (b : Nat) (sp : Nat → Bool) (hd : Bool), DataW.TrodAll enc P W' b sp hd f.resultTypes.toList (v.resultList f.resultTypes.size) (s.fn H (ds ++ gs)).results [])
    (hargs : ∀ sp : Nat → Bool, (∀ p ∈ before, sp p.block = true) → DataW.TrodAll enc P W' 0 sp true f.params.toList args.toList (s.fn H (ds ++ gs)).args pa)
    (hvars : ∀ sp : Nat → Bool, (∀ p ∈ before, sp p.block = true) → DataW.TrodVars enc P W' sp s.vars (s.fn H (ds ++ gs)).vars pv)
    (hps : before = pa ++ pv) (hb : Below W.heap.size W W')
    (hok : ∀ (j : Nat) (t : TypeId) (r : Value), f.resultTypes[j]? = some t → (v.resultList f.resultTypes.size)[j]? = some r → Value.okWide P W' .any 0 t r) :
    s.post enc P f apart fresh handsOn again W args v W' := by
  have hlt : ∀ p ∈ before, p.block < W.heap.size := fun p hp => hW.lt p hp
  have hold : ∀ p ∈ before, (fun b => decide (b < W.heap.size)) p.block = true := fun p hp => by simpa using hlt p hp
  refine ⟨ds, gs, before, [], pa, pv, hW, hres _ _ _, hargs _ hold, hvars _ hold, World.keptBut_mono (fun p hp => ⟨hp, ?_⟩) (hb.frame (· ∈ before)), fun _ => ?_⟩
  · rw [hps, List.mem_append] at hp
    exact Or.inr hp
  · obtain ⟨_, _, _, _, _, hz, hn⟩ := hW
    refine ⟨hok, _, _, ([] ++ pa) ++ pv, ⟨[] ++ pa, pv, trodAll_append (hargs _ (fun _ _ => rfl)) (hres _ _ _), hvars _ (fun _ _ => rfl), rfl, ?_, ?_⟩, ?_⟩
    · intro b off hp
      have hin : MemPlace.cell b off ∈ before := by rw [hps]; simpa using hp
      rw [hb.frozen (hlt _ hin)]
      exact hz b off hin
    · intro ha
      have := hn ha
      rw [hps] at this
      simpa using this
    · intro p hp _
      rw [hps]
      simpa using hp
end
theorem own_ : ownKnob Tryd.prog.godebug = none := by kernel_rfl
theorem laidOut_ : laidOutB Tryd.prog = true := by kernel_rfl
end Go.Proofs.YtdjcflnemnknaaaDoor

namespace Go.Proofs.YtdjcflnemnknaaaDoor
open Go.RowKit
set_option linter.unusedVariables false

/-- The decimal digits of a number; none for 0. -/
def decN (n : Nat) : List UInt8 := if h : n = 0 then [] else decN (n / 10) ++ [UInt8.ofNat (48 + n % 10)]
termination_by n
decreasing_by omega
theorem decN_zero : decN 0 = [] := by rw [decN]; simp
theorem decN_pos {n : Nat} (h : n ≠ 0) : decN n = decN (n / 10) ++ [UInt8.ofNat (48 + n % 10)] := by rw [decN]; simp [h]
def mtxt (k : Int) : ByteArray := if k ≤ 0 then ⟨#[109, 48]⟩ else ⟨(109 :: decN k.toNat).toArray⟩

mutual
def D.cnt : D → Nat
  | .leaf _ => 1
  | .sl l => D.cnts l
  | .agg l => D.cnts l
def D.cnts : List D → Nat
  | [] => 0
  | d :: l => d.cnt + D.cnts l
end
def mleaf (v : Value) (k : Int) : Value := match v with | .string _ => .string (mtxt k) | _ => .int .i64 k
mutual
def D.mk : D → Int → D
  | .leaf v, k => .leaf (mleaf v k)
  | .sl l, k => .sl (D.mks l k)
  | .agg l, k => .agg (D.mks l k)
def D.mks : List D → Int → List D
  | [], _ => []
  | d :: l, k => d.mk k :: D.mks l (k + d.cnt)
end
theorem D.mks_nil (k : Int) : D.mks [] k = [] := by rw [D.mks]
theorem D.mks_cons (d : D) (l : List D) (k : Int) : D.mks (d :: l) k = d.mk k :: D.mks l (k + d.cnt) := by rw [D.mks]
theorem D.cnts_nil : D.cnts [] = 0 := by rw [D.cnts]
theorem D.cnts_cons (d : D) (l : List D) : D.cnts (d :: l) = d.cnt + D.cnts l := by rw [D.cnts]
theorem D.mks_length : ∀ (l : List D) (k : Int), (D.mks l k).length = l.length
  | [], _ => by rw [D.mks_nil]
  | d :: l, k => by rw [D.mks_cons, List.length_cons, List.length_cons, D.mks_length l]
theorem D.cnts_append : ∀ (a b : List D), D.cnts (a ++ b) = D.cnts a + D.cnts b
  | [], b => by rw [D.cnts_nil, List.nil_append, Nat.zero_add]
  | d :: a, b => by rw [List.cons_append, D.cnts_cons, D.cnts_cons, D.cnts_append a b, Nat.add_assoc]
theorem D.mks_append : ∀ (a b : List D) (k : Int), D.mks (a ++ b) k = D.mks a k ++ D.mks b (k + D.cnts a)
  | [], b, k => by rw [D.mks_nil, D.cnts_nil, List.nil_append, List.nil_append]; simp
  | d :: a, b, k => by
    rw [List.cons_append, D.mks_cons, D.mks_cons, D.mks_append a b, D.cnts_cons, List.cons_append]
    congr 3
    push_cast
    omega
mutual
theorem D.mk_sz : ∀ (d : D) (k : Int), (d.mk k).sz = d.sz
  | .leaf _, _ => rfl
  | .sl _, _ => rfl
  | .agg l, k => by rw [D.mk, D.sz, D.sz, D.mks_szs l]
theorem D.mks_szs : ∀ (l : List D) (k : Int), D.szs (D.mks l k) = D.szs l
  | [], _ => by rw [D.mks_nil]
  | d :: l, k => by rw [D.mks_cons, D.szs, D.szs, D.mk_sz d, D.mks_szs l]
end
mutual
theorem D.mk_cnt : ∀ (d : D) (k : Int), (d.mk k).cnt = d.cnt
  | .leaf _, _ => rfl
  | .sl l, k => by rw [D.mk, D.cnt, D.cnt, D.mks_cnts l]
  | .agg l, k => by rw [D.mk, D.cnt, D.cnt, D.mks_cnts l]
theorem D.mks_cnts : ∀ (l : List D) (k : Int), D.cnts (D.mks l k) = D.cnts l
  | [], _ => by rw [D.mks_nil]
  | d :: l, k => by rw [D.mks_cons, D.cnts, D.cnts, D.mk_cnt d, D.mks_cnts l]
end
theorem D.cnts_take (l : List D) {i : Nat} (h : i < l.length) : D.cnts (l.take (i + 1)) = D.cnts (l.take i) + (l[i]).cnt := by
  rw [List.take_succ_eq_append_getElem h, D.cnts_append, D.cnts_cons, D.cnts_nil, Nat.add_zero]
theorem D.cnts_take_le (l : List D) (i : Nat) : D.cnts (l.take i) ≤ D.cnts l := by
  have := D.cnts_append (l.take i) (l.drop i)
  rw [List.take_append_drop] at this
  omega
/-- The first i are marked. -/
def part (l : List D) (k : Int) (i : Nat) : List D := D.mks (l.take i) k ++ l.drop i
theorem part_zero (l : List D) (k : Int) : part l k 0 = l := by simp [part, D.mks_nil]
theorem part_all (l : List D) (k : Int) {i : Nat} (h : l.length ≤ i) : part l k i = D.mks l k := by
  unfold part
  rw [List.take_of_length_le h, List.drop_eq_nil_of_le h, List.append_nil]
theorem part_length (l : List D) (k : Int) (i : Nat) : (part l k i).length = l.length := by
  unfold part
  rw [List.length_append, D.mks_length, ← List.length_append, List.take_append_drop]
theorem part_get (l : List D) (k : Int) {i : Nat} (h : i < l.length) : (part l k i)[i]? = some l[i] := by
  unfold part
  rw [List.getElem?_append_right (by rw [D.mks_length, List.length_take]; omega), D.mks_length, List.length_take, Nat.min_eq_left (by omega), Nat.sub_self, List.getElem?_drop, Nat.add_zero, List.getElem?_eq_getElem h]
theorem part_succ (l : List D) (k : Int) {i : Nat} (h : i < l.length) : (part l k i).set i ((l[i]).mk (k + D.cnts (l.take i))) = part l k (i + 1) := by
  unfold part
  have hl : (D.mks (l.take i) k).length = i := by rw [D.mks_length, List.length_take]; omega
  rw [List.take_succ_eq_append_getElem h, D.mks_append, List.set_append_right _ _ (by omega), hl, Nat.sub_self, List.drop_eq_getElem_cons h, List.set_cons_zero, D.mks_cons, D.mks_nil, List.append_assoc]
  rfl
theorem part_sz {l : List D} {s : Nat} (hs : ∀ d ∈ l, d.sz = s) (k : Int) (i : Nat) : ∀ d ∈ part l k i, d.sz = s := by
  intro d hd
  unfold part at hd
  rcases List.mem_append.1 hd with h | h
  · have aux : ∀ (l : List D) (k : Int), (∀ d ∈ l, d.sz = s) → ∀ d ∈ D.mks l k, d.sz = s := by
      intro l
      induction l with
      | nil => intro k _ d hd; rw [D.mks_nil] at hd; simp at hd
      | cons x l ih =>
        intro k hx d hd
        rw [D.mks_cons] at hd
        rcases List.mem_cons.1 hd with rfl | hd
        · rw [D.mk_sz]; exact hx x (by simp)
        · exact ih _ (fun y hy => hx y (by simp [hy])) d hd
    exact aux _ _ (fun y hy => hs y (List.mem_of_mem_take hy)) d h
  · exact hs d (List.mem_of_mem_drop h)
theorem mks_get (l : List D) (k : Int) {i : Nat} (h : i < l.length) : (D.mks l k)[i]? = some ((l[i]).mk (k + D.cnts (l.take i))) := by
  have e : D.mks l k = part l k l.length := (part_all l k (Nat.le_refl _)).symm
  have hp := part_succ l k h
  have : D.mks l k = D.mks (l.take (i + 1)) k ++ D.mks (l.drop (i + 1)) (k + D.cnts (l.take (i + 1))) := by rw [← D.mks_append, List.take_append_drop]
  rw [this, List.getElem?_append_left (by rw [D.mks_length, List.length_take]; omega), List.take_succ_eq_append_getElem h, D.mks_append, List.getElem?_append_right (by rw [D.mks_length, List.length_take]; omega), D.mks_length, List.length_take, Nat.min_eq_left (by omega), Nat.sub_self, D.mks_cons]
  rfl

mutual
/-- The marks of a value that is handed on: what stands in its slices alone. -/
def D.acnt : D → Nat
  | .leaf _ => 0
  | .sl l => D.cnts l
  | .agg l => D.acnts l
def D.acnts : List D → Nat
  | [] => 0
  | d :: l => d.acnt + D.acnts l
end
mutual
def D.amk : D → Int → D
  | .leaf v, _ => .leaf v
  | .sl l, k => .sl (D.mks l k)
  | .agg l, k => .agg (D.amks l k)
def D.amks : List D → Int → List D
  | [], _ => []
  | d :: l, k => d.amk k :: D.amks l (k + d.acnt)
end

/-! ### What is touched -/
structure Touch (fp : List Nat) (w w' : World) : Prop where
  os : w'.os = w.os
  tape : w'.tape = w.tape
  output : w'.output = w.output
  size : w.heap.size ≤ w'.heap.size
  block : ∀ k, k < w.heap.size → k ∉ fp → w'.heap[k]? = w.heap[k]?
  froz : ∀ b o, b < w.heap.size → w'.frozen? ⟨b, o, none⟩ = w.frozen? ⟨b, o, none⟩
theorem Touch.refl (fp : List Nat) (w : World) : Touch fp w w := ⟨rfl, rfl, rfl, Nat.le_refl _, fun _ _ _ => rfl, fun _ _ _ => rfl⟩
theorem Touch.trans {fp : List Nat} {a b c : World} (h : Touch fp a b) (k : Touch fp b c) : Touch fp a c :=
  ⟨k.os.trans h.os, k.tape.trans h.tape, k.output.trans h.output, Nat.le_trans h.size k.size, fun i hi hn => (k.block i (Nat.lt_of_lt_of_le hi h.size) hn).trans (h.block i hi hn), fun b o hb => (k.froz b o (Nat.lt_of_lt_of_le hb h.size)).trans (h.froz b o hb)⟩
theorem Touch.mono {fp fp' : List Nat} {a b : World} (h : Touch fp a b) (hf : ∀ x ∈ fp, x ∈ fp') : Touch fp' a b :=
  ⟨h.os, h.tape, h.output, h.size, fun i hi hn => h.block i hi fun hm => hn (hf i hm), h.froz⟩
theorem Touch.of_below {fp : List Nat} {a b : World} (h : Below a.heap.size a b) : Touch fp a b :=
  ⟨h.os, h.tape, h.output, h.size, fun i hi _ => h.block i hi, fun x o hx => h.frozen (p := ⟨x, o, none⟩) hx⟩
theorem Touch.below {fp : List Nat} {a b c : World} (h : Touch fp a b) (k : Below b.heap.size b c) : Touch fp a c := h.trans (Touch.of_below k)
theorem Touch.toBelow {fp : List Nat} {B : Nat} {a b c : World} (h : Below B a b) (k : Touch fp b c) (hf : ∀ x ∈ fp, B ≤ x) (hs : B ≤ b.heap.size) : Below B a c :=
  h.trans ⟨k.os, k.tape, k.output, k.size, fun i hi => k.block i (by omega) (fun hm => by have := hf i hm; omega)⟩
theorem Touch.kept {fp : List Nat} {lo hi : Nat} {a b : World} (h : Touch fp a b) (hf : ∀ x ∈ fp, lo ≤ x ∧ x < hi) : Kept lo hi a b :=
  ⟨h.os, h.tape, h.output, h.size, fun i hi' ho => h.block i hi' (fun hm => by have := hf i hm; omega)⟩
theorem Free.touch {fp : List Nat} {a b : World} {base : Nat} {g : List Nat} (hF : Free a base g) (hl : ∀ x ∈ g, x < a.heap.size) (h : Touch fp a b) : Free b base g :=
  ⟨hF.1, fun x hx => ⟨(hF.2 x hx).1, fun o => by rw [h.froz x o (hl x hx)]; exact (hF.2 x hx).2 o⟩⟩
theorem R.touch {fp : List Nat} {a b : World} {d : D} {g : List Nat} {cs : List Value} (hR : R a d g cs) (h : Touch fp a b) (hd : ∀ x ∈ g, x ∉ fp) : R b d g cs :=
  hR.same (fun x hx => h.block x (hR.lt x hx) (hd x hx)) h.size
theorem Sl.touch {fp : List Nat} {a b : World} {l : List D} {g : List Nat} {v : Value} (hR : Sl a l g v) (h : Touch fp a b) (hd : ∀ x ∈ g, x ∉ fp) : Sl b l g v := R.touch hR h hd
theorem Row.touch {fp : List Nat} {a b : World} {g : Nat} {e : TypeId} {xs : List Value} (hR : Row a g e xs) (h : Touch fp a b) (hd : g ∉ fp) : Row b g e xs := (h.block g hR.lt hd).trans hR

/-- Within one round: cells lo .. hi of block b, and the blocks fi. -/
structure Inr (b lo hi : Nat) (fi : List Nat) (w w' : World) : Prop where
  os : w'.os = w.os
  tape : w'.tape = w.tape
  output : w'.output = w.output
  size : w.heap.size ≤ w'.heap.size
  block : ∀ x, x < w.heap.size → x ≠ b → x ∉ fi → w'.heap[x]? = w.heap[x]?
  cell : ∀ off, (off < lo ∨ hi ≤ off) → w'.cell? ⟨b, off, none⟩ = w.cell? ⟨b, off, none⟩
  froz : ∀ x o, x < w.heap.size → w'.frozen? ⟨x, o, none⟩ = w.frozen? ⟨x, o, none⟩
section
variable {b lo hi : Nat} {fi : List Nat} {w a c : World}
theorem Inr.refl (b lo hi : Nat) (fi : List Nat) (w : World) : Inr b lo hi fi w w := ⟨rfl, rfl, rfl, Nat.le_refl _, fun _ _ _ _ => rfl, fun _ _ => rfl, fun _ _ _ => rfl⟩
theorem Inr.below (h : Inr b lo hi fi w a) (hb : b < w.heap.size) (k : Below a.heap.size a c) : Inr b lo hi fi w c :=
  ⟨k.os.trans h.os, k.tape.trans h.tape, k.output.trans h.output, Nat.le_trans h.size k.size, fun x hx h1 h2 => (k.block x (Nat.lt_of_lt_of_le hx h.size)).trans (h.block x hx h1 h2), fun off ho => (k.cell (p := ⟨b, off, none⟩) (Nat.lt_of_lt_of_le hb h.size)).trans (h.cell off ho), fun x o hx => (k.frozen (p := ⟨x, o, none⟩) (Nat.lt_of_lt_of_le hx h.size)).trans (h.froz x o hx)⟩
theorem Inr.touch {F : List Nat} (h : Inr b lo hi fi w a) (hb : b < w.heap.size) (k : Touch F a c) (hF : ∀ x ∈ F, x ∈ fi) (hn : b ∉ F) : Inr b lo hi fi w c :=
  ⟨k.os.trans h.os, k.tape.trans h.tape, k.output.trans h.output, Nat.le_trans h.size k.size, fun x hx h1 h2 => (k.block x (Nat.lt_of_lt_of_le hx h.size) (fun hm => h2 (hF x hm))).trans (h.block x hx h1 h2), fun off ho => (World.cell?_of_block (k.block b (Nat.lt_of_lt_of_le hb h.size) hn)).trans (h.cell off ho), fun x o hx => (k.froz x o (Nat.lt_of_lt_of_le hx h.size)).trans (h.froz x o hx)⟩
theorem Inr.setCell (h : Inr b lo hi fi w a) {off : Nat} (h1 : lo ≤ off) (h2 : off < hi) (u : Value) : Inr b lo hi fi w (a.setCell ⟨b, off, none⟩ u) :=
  ⟨h.os, h.tape, h.output, by simpa [World.setCell] using h.size, fun x hx h3 h4 => (Below.heap_setCell _ _ _ _ h3).trans (h.block x hx h3 h4),
   fun o ho => by
     rw [World.cell?_setCell_other]
     · exact h.cell o ho
     · intro e; injection e with _ e2; omega,
   fun x o hx => by rw [World.frozen?_setCell]; exact h.froz x o hx⟩
theorem Inr.toTouch {fp : List Nat} (h : Inr b lo hi fi w a) (hb : b ∈ fp) (hf : ∀ x ∈ fi, x ∈ fp) : Touch fp w a :=
  ⟨h.os, h.tape, h.output, h.size, fun x hx hn => h.block x hx (fun e => hn (e ▸ hb)) (fun hm => hn (hf x hm)), h.froz⟩
end
theorem At.below {w a : World} {b o : Nat} {cs : List Value} (h : At w b o cs) (hb : b < w.heap.size) (k : Below w.heap.size w a) : At a b o cs :=
  fun j u hj => (k.cell (p := ⟨b, o + j, none⟩) hb).trans (h j u hj)
theorem At.touch {w a : World} {b o : Nat} {cs : List Value} {F : List Nat} (h : At w b o cs) (hb : b < w.heap.size) (k : Touch F w a) (hn : b ∉ F) : At a b o cs :=
  fun j u hj => (World.cell?_of_block (k.block b hb hn)).trans (h j u hj)
theorem At.set {w : World} {b o : Nat} {cs : List Value} (h : At w b o cs) {j : Nat} (hj : j < cs.length) (u : Value) : At (w.setCell ⟨b, o + j, none⟩ u) b o (cs.set j u) := by
  intro i v hi
  rw [List.getElem?_set] at hi
  split at hi
  · next e =>
    subst e
    try rw [if_pos hj] at hi
    cases hi
    exact World.cell?_setCell_same _ _ _ (h j _ (List.getElem?_eq_getElem hj))
  · next e =>
    rw [World.cell?_setCell_other]
    · exact h i v hi
    · intro e2; injection e2 with _ e3; omega

theorem Rs.nodup_split {w : World} {a b : List Nat} (h : (a ++ b).Nodup) : a.Nodup ∧ b.Nodup ∧ ∀ x ∈ a, x ∉ b :=
  ⟨(List.nodup_append.1 h).1, (List.nodup_append.1 h).2.1, fun x hx hy => (List.nodup_append.1 h).2.2 x hx x hy rfl⟩

/-- One element in sight, and what it is good for to write it anew. -/
theorem Sl.focus {w : World} {s : Nat} {l : List D} {fp : List Nat} {A : Option Addr} {n cap : Nat} (h : Sl w l fp (.slice A n cap)) (hnd : fp.Nodup) (hs : ∀ d ∈ l, d.sz = s) {k : Nat} {d : D} (hd : l[k]? = some d) :
    ∃ b o fi ci, A = some ⟨b, o, none⟩ ∧ b < w.heap.size ∧ b ∈ fp ∧ R w d fi ci ∧ (∀ x ∈ fi, x ∈ fp) ∧ b ∉ fi ∧ fi.Nodup ∧ At w b (o + k * s) ci ∧
      ∀ (w' : World) (d' : D) (ci' : List Value), d'.sz = s → R w' d' fi ci' → At w' b (o + k * s) ci' → Inr b (o + k * s) (o + k * s + s) fi w w' → Sl w' (l.set k d') fp (.slice A n cap) := by
  unfold Sl at h
  rw [R] at h
  obtain ⟨A', cap', h1, hle, hcap, h3⟩ := h
  simp only [List.cons.injEq, and_true, Value.slice.injEq] at h1
  obtain ⟨rfl, rfl, rfl⟩ := h1
  rcases h3 with ⟨rfl, _⟩ | ⟨b, o, fp', cs', rfl, rfl, hb, hr, ha⟩
  · simp at hd
  · obtain ⟨hi, hd'⟩ := List.getElem?_eq_some_iff.1 hd
    have e : l = l.take k ++ (d :: l.drop (k + 1)) := by rw [← hd', ← List.drop_eq_getElem_cons, List.take_append_drop]
    rw [e] at hr
    obtain ⟨f1, f2, c1, c2, rfl, rfl, h1, h2⟩ := Rs.split hr
    obtain ⟨g1, g2, e1, e2, rfl, rfl, h3, h4⟩ := h2
    have hl : c1.length = k * s := by
      rw [h1.len, szs_const (s := s) _ (fun x hx => hs x (List.mem_of_mem_take hx)), List.length_take, Nat.min_eq_left (by omega)]
    have hl1 : e1.length = s := by rw [h3.len, hs d (List.mem_of_getElem? hd)]
    have hnd' := (List.nodup_cons.1 hnd)
    obtain ⟨n1, n2, n3⟩ := Rs.nodup_split (w := w) hnd'.2
    obtain ⟨n4, n5, n6⟩ := Rs.nodup_split (w := w) n2
    have ha2 : At w b (o + k * s) (e1 ++ e2) := by have := ha.right; rwa [hl] at this
    refine ⟨b, o, g1, e1, rfl, hb, by simp, h3, fun x hx => by simp [hx], fun hm => hnd'.1 (by simp [hm]), n4, ha2.left, ?_⟩
    intro w' d' ci' hsz hR' hA' hI
    have hbl : ∀ x ∈ f1 ++ g2, w'.heap[x]? = w.heap[x]? := by
      intro x hx
      have hx' : x ∈ f1 ++ (g1 ++ g2) := by rcases List.mem_append.1 hx with h | h <;> simp [h]
      refine hI.block x (Rs.lt hr x hx') (fun e => hnd'.1 (e ▸ hx')) (fun hm => ?_)
      rcases List.mem_append.1 hx with h | h
      · exact n3 x h (by simp [hm])
      · exact n6 x hm h
    unfold Sl
    rw [R]
    have hls : (l.set k d').length = l.length := List.length_set
    have hc' : ci'.length = s := by rw [hR'.len, hsz]
    refine ⟨_, cap, by rw [hls], by rw [hls]; exact hle, hcap, Or.inr ⟨b, o, f1 ++ (g1 ++ g2), c1 ++ (ci' ++ e2), rfl, rfl, Nat.lt_of_lt_of_le hb hI.size, ?_, ?_⟩⟩
    · have e' : l.set k d' = l.take k ++ (d' :: l.drop (k + 1)) := by rw [List.set_eq_take_append_cons_drop, if_pos hi]
      rw [e']
      have h5 : Rs w' (d' :: l.drop (k + 1)) (g1 ++ g2) (ci' ++ e2) := by
        rw [Rs]
        exact ⟨g1, g2, ci', e2, rfl, rfl, hR', h4.same (fun x hx => hbl x (by simp [hx])) hI.size⟩
      exact Rs.append h5 (h1.same (fun x hx => hbl x (by simp [hx])) hI.size)
    · intro j u hj
      rcases Nat.lt_or_ge j c1.length with hj1 | hj1
      · rw [List.getElem?_append_left hj1] at hj
        rw [hI.cell _ (Or.inl (by omega))]
        exact ha j u (by rw [List.getElem?_append_left hj1]; exact hj)
      · rw [List.getElem?_append_right hj1] at hj
        rcases Nat.lt_or_ge (j - c1.length) ci'.length with hj2 | hj2
        · rw [List.getElem?_append_left hj2] at hj
          have := hA' _ u hj
          rwa [show o + k * s + (j - c1.length) = o + j by omega] at this
        · rw [List.getElem?_append_right hj2] at hj
          rw [hI.cell _ (Or.inr (by omega))]
          refine ha j u ?_
          rw [List.getElem?_append_right hj1, List.getElem?_append_right (by omega), ← hj]
          congr 1
          omega

/-- To mark a slice; a value. -/
def MarkPost (l : List D) (fp : List Nat) (v : Value) (k : Int) (w : World) (e : Ending) (w' : World) : Prop := e = .returned (.int .i64 (k + D.cnts l)) ∧ Sl w' (D.mks l k) fp v ∧ Touch fp w w'
def MarksSaid (P : Program) (f : Nat) (l : List D) : Prop := ∀ (w : World) (fp : List Nat) (v : Value) (k : Int), Sl w l fp v → Free w 0 fp → 0 ≤ k → k + D.cnts l ≤ 4611686018427387904 → Calls P f #[v, .int .i64 k] w (MarkPost l fp v k w)
def AMarkPost (d : D) (fp : List Nat) (cs : List Value) (k : Int) (w : World) (e : Ending) (w' : World) : Prop := e = .returned (.int .i64 (k + d.acnt)) ∧ R w' (d.amk k) fp cs ∧ Touch fp w w'
def AMarkSaid (P : Program) (f : Nat) (d : D) : Prop := ∀ (w : World) (fp : List Nat) (cs : List Value) (k : Int), R w d fp cs → Free w 0 fp → 0 ≤ k → k + d.acnt ≤ 4611686018427387904 → Calls P f #[.agg cs.toArray, .int .i64 k] w (AMarkPost d fp cs k w)
/-- To look whether the marks stand. -/
def HeldPost (n : Nat) (k : Int) (w : World) (e : Ending) (w' : World) : Prop := e = .returned (.int .i64 (k + n)) ∧ Below w.heap.size w w'
def HeldsSaid (P : Program) (f : Nat) (l : List D) : Prop := ∀ (w : World) (fp : List Nat) (v : Value) (k : Int), Sl w (D.mks l k) fp v → 0 ≤ k → k + D.cnts l ≤ 4611686018427387904 → Calls P f #[v, .int .i64 k] w (HeldPost (D.cnts l) k w)
def AHeldSaid (P : Program) (f : Nat) (d : D) : Prop := ∀ (w : World) (fp : List Nat) (cs : List Value) (k : Int), R w (d.amk k) fp cs → 0 ≤ k → k + d.acnt ≤ 4611686018427387904 → Calls P f #[.agg cs.toArray, .int .i64 k] w (HeldPost d.acnt k w)

theorem Sl.inr {b lo hi : Nat} {F : List Nat} {w a : World} {l : List D} {g : List Nat} {v : Value} (h : Sl w l g v) (hI : Inr b lo hi F w a) (hb : b ∉ g) (hd : ∀ x ∈ g, x ∉ F) : Sl a l g v :=
  R.same h (fun x hx => hI.block x (R.lt h x hx) (fun e => hb (e ▸ hx)) (hd x hx)) hI.size
theorem Free.inr {b lo hi : Nat} {F : List Nat} {w a : World} {base : Nat} {g : List Nat} (h : Free w base g) (hl : ∀ x ∈ g, x < w.heap.size) (hI : Inr b lo hi F w a) : Free a base g :=
  ⟨h.1, fun x hx => ⟨(h.2 x hx).1, fun o => by rw [hI.froz x o (hl x hx)]; exact (h.2 x hx).2 o⟩⟩
theorem Inr.mono {b lo hi : Nat} {F F' : List Nat} {w a : World} (h : Inr b lo hi F w a) (hf : ∀ x ∈ F, x ∈ F') : Inr b lo hi F' w a :=
  ⟨h.os, h.tape, h.output, h.size, fun x hx h1 h2 => h.block x hx h1 (fun hm => h2 (hf x hm)), h.cell, h.froz⟩
theorem Free.sub {w : World} {base : Nat} {fp g : List Nat} (h : Free w base fp) (hn : g.Nodup) (hs : ∀ x ∈ g, x ∈ fp) : Free w base g := ⟨hn, fun x hx => h.2 x (hs x hx)⟩
theorem size_setCell (w : World) (p : Addr) (u : Value) : (w.setCell p u).heap.size = w.heap.size := by simp [World.setCell]
theorem nodup3 {a b c : List Nat} (h : (a ++ (b ++ c)).Nodup) : a.Nodup ∧ b.Nodup ∧ c.Nodup ∧ (∀ x ∈ b, x ∉ a) ∧ (∀ x ∈ c, x ∉ a) ∧ (∀ x ∈ c, x ∉ b) := by
  obtain ⟨h1, h2, h3⟩ := List.nodup_append.1 h
  obtain ⟨h4, h5, h6⟩ := List.nodup_append.1 h2
  exact ⟨h1, h4, h5, fun x hx hy => h3 x hy x (by simp [hx]) rfl, fun x hx hy => h3 x hy x (by simp [hx]) rfl, fun x hx hy => h6 x hy x hx rfl⟩

mutual
/-- No element of a slice takes more than 14 cells. -/
def D.thin : D → Prop
  | .leaf _ => True
  | .sl l => D.thins l
  | .agg l => D.athins l
def D.thins : List D → Prop
  | [] => True
  | d :: l => d.sz ≤ 14 ∧ d.thin ∧ D.thins l
def D.athins : List D → Prop
  | [] => True
  | d :: l => d.thin ∧ D.athins l
end
mutual
theorem D.cnt_le : ∀ (d : D), d.thin → d.cnt ≤ d.sz + 14 * d.wt
  | .leaf _, _ => by simp only [D.cnt, D.sz]; omega
  | .sl l, h => by
    have := D.cnts_le l h
    simp only [D.cnt, D.sz, D.wt]
    omega
  | .agg l, h => by
    have := D.acnts_le l h
    simp only [D.cnt, D.sz, D.wt]
    omega
theorem D.cnts_le : ∀ (l : List D), D.thins l → D.cnts l ≤ 14 * (l.length + D.wts l)
  | [], _ => by simp only [D.cnts]; omega
  | d :: l, h => by
    obtain ⟨h1, h2, h3⟩ := h
    have e1 := D.cnt_le d h2
    have e2 := D.cnts_le l h3
    simp only [D.cnts, D.wts, List.length_cons]
    omega
theorem D.acnts_le : ∀ (l : List D), D.athins l → D.cnts l ≤ D.szs l + 14 * D.wts l
  | [], _ => by simp only [D.cnts, D.szs]; omega
  | d :: l, h => by
    obtain ⟨h1, h2⟩ := h
    have e1 := D.cnt_le d h1
    have e2 := D.acnts_le l h2
    simp only [D.cnts, D.wts, D.szs]
    omega
end
mutual
theorem D.acnt_le : ∀ (d : D), d.acnt ≤ d.cnt
  | .leaf _ => by simp only [D.acnt]; omega
  | .sl l => by simp only [D.acnt, D.cnt]; omega
  | .agg l => by
    have := D.aacnts_le l
    simp only [D.acnt, D.cnt]
    omega
theorem D.aacnts_le : ∀ (l : List D), D.acnts l ≤ D.cnts l
  | [] => by simp only [D.acnts]; omega
  | d :: l => by
    have e1 := D.acnt_le d
    have e2 := D.aacnts_le l
    simp only [D.acnts, D.cnts]
    omega
end
theorem D.thins_of {l : List D} (h : ∀ d ∈ l, d.sz ≤ 14 ∧ d.thin) : D.thins l := by
  induction l with
  | nil => trivial
  | cons d l ih => exact ⟨(h d (by simp)).1, (h d (by simp)).2, ih fun x hx => h x (by simp [hx])⟩
theorem D.cnts_map {α : Type} (f : α → D) (c : Nat) (l : List α) (h : ∀ x ∈ l, (f x).cnt = c) : D.cnts (l.map f) = l.length * c := by
  induction l with
  | nil => simp [D.cnts]
  | cons x l ih =>
    rw [List.map_cons, D.cnts_cons, ih (fun y hy => h y (by simp [hy])), h x (by simp), List.length_cons, Nat.add_mul]
    omega
theorem cnts_ints (l : List Int) : D.cnts (l.map li) = l.length := by rw [D.cnts_map li 1 l (fun _ _ => rfl), Nat.mul_one]
theorem cnts_strs (l : List ByteArray) : D.cnts (l.map ls) = l.length := by rw [D.cnts_map ls 1 l (fun _ _ => rfl), Nat.mul_one]
theorem thin_ints (l : List Int) : D.thins (l.map li) := D.thins_of fun d hd => by obtain ⟨x, _, rfl⟩ := List.mem_map.1 hd; exact ⟨by simp [li, D.sz], trivial⟩
theorem thin_strs (l : List ByteArray) : D.thins (l.map ls) := D.thins_of fun d hd => by obtain ⟨x, _, rfl⟩ := List.mem_map.1 hd; exact ⟨by simp [ls, D.sz], trivial⟩
theorem GOrigin.thin (x : GOrigin) : x.toD.thin := by
  rw [GOrigin.toD_eq]
  exact ⟨trivial, trivial, trivial⟩
theorem GOrigin.thins (l : List GOrigin) : D.thins (l.map GOrigin.toD) := D.thins_of fun d hd => by obtain ⟨y, _, rfl⟩ := List.mem_map.1 hd; exact ⟨by rw [GOrigin.sz_eq]; omega, y.thin⟩
theorem GRow.thin (x : GRow) : x.toD.thin := by
  rw [GRow.toD_eq]
  exact ⟨thin_ints _, GOrigin.thins _, trivial⟩
theorem GRow.thins (l : List GRow) : D.thins (l.map GRow.toD) := D.thins_of fun d hd => by obtain ⟨y, _, rfl⟩ := List.mem_map.1 hd; exact ⟨by rw [GRow.sz_eq]; omega, y.thin⟩
theorem GVal.thin (x : GVal) : x.toD.thin := by
  rw [GVal.toD_eq]
  exact ⟨trivial, trivial, trivial, trivial, (D.thins_of fun d hd => by obtain ⟨y, hy, rfl⟩ := List.mem_map.1 hd; exact ⟨by rw [GVal.sz_eq]; omega, GVal.thin y⟩), thin_strs _, GRow.thins _, trivial⟩
termination_by SizeOf.sizeOf x
decreasing_by exact GVal.lt_of_mem hy
theorem GVal.thins (l : List GVal) : D.thins (l.map GVal.toD) := D.thins_of fun d hd => by obtain ⟨y, _, rfl⟩ := List.mem_map.1 hd; exact ⟨by rw [GVal.sz_eq]; omega, y.thin⟩
theorem GTok.thin (x : GTok) : x.toD.thin := by
  rw [GTok.toD_eq]
  exact ⟨trivial, trivial, trivial, trivial, trivial⟩
theorem GTok.thins (l : List GTok) : D.thins (l.map GTok.toD) := D.thins_of fun d hd => by obtain ⟨y, _, rfl⟩ := List.mem_map.1 hd; exact ⟨by rw [GTok.sz_eq]; omega, y.thin⟩
theorem GExpr.thin (x : GExpr) : x.toD.thin := by
  rw [GExpr.toD_eq]
  exact ⟨trivial, trivial, trivial, (D.thins_of fun d hd => by obtain ⟨y, hy, rfl⟩ := List.mem_map.1 hd; exact ⟨by rw [GExpr.sz_eq]; omega, GExpr.thin y⟩), trivial⟩
termination_by SizeOf.sizeOf x
decreasing_by exact GExpr.lt_of_mem hy
theorem GExpr.thins (l : List GExpr) : D.thins (l.map GExpr.toD) := D.thins_of fun d hd => by obtain ⟨y, _, rfl⟩ := List.mem_map.1 hd; exact ⟨by rw [GExpr.sz_eq]; omega, y.thin⟩
theorem GCell.thin (x : GCell) : x.toD.thin := by
  rw [GCell.toD_eq]
  exact ⟨trivial, trivial, trivial, trivial, trivial, trivial, trivial⟩
theorem GCell.thins (l : List GCell) : D.thins (l.map GCell.toD) := D.thins_of fun d hd => by obtain ⟨y, _, rfl⟩ := List.mem_map.1 hd; exact ⟨by rw [GCell.sz_eq]; omega, y.thin⟩
theorem GNb.thin (x : GNb) : x.toD.thin := by
  rw [GNb.toD_eq]
  exact ⟨GCell.thins _, trivial⟩
theorem GNb.thins (l : List GNb) : D.thins (l.map GNb.toD) := D.thins_of fun d hd => by obtain ⟨y, _, rfl⟩ := List.mem_map.1 hd; exact ⟨by rw [GNb.sz_eq]; omega, y.thin⟩
theorem GPart.thin (x : GPart) : x.toD.thin := by
  rw [GPart.toD_eq]
  exact ⟨trivial, trivial, GExpr.thin _, GVal.thin _, trivial, trivial⟩
theorem GPart.thins (l : List GPart) : D.thins (l.map GPart.toD) := D.thins_of fun d hd => by obtain ⟨y, _, rfl⟩ := List.mem_map.1 hd; exact ⟨by rw [GPart.sz_eq]; omega, y.thin⟩
theorem GEdit.thin (x : GEdit) : x.toD.thin := by
  rw [GEdit.toD_eq]
  exact ⟨trivial, trivial, GCell.thin _, trivial⟩
theorem GEdit.thins (l : List GEdit) : D.thins (l.map GEdit.toD) := D.thins_of fun d hd => by obtain ⟨y, _, rfl⟩ := List.mem_map.1 hd; exact ⟨by rw [GEdit.sz_eq]; omega, y.thin⟩
theorem GRead.thin (x : GRead) : x.toD.thin := by
  rw [GRead.toD_eq]
  exact ⟨trivial, trivial, trivial, trivial, GVal.thin _, trivial⟩
theorem GRead.thins (l : List GRead) : D.thins (l.map GRead.toD) := D.thins_of fun d hd => by obtain ⟨y, _, rfl⟩ := List.mem_map.1 hd; exact ⟨by rw [GRead.sz_eq]; omega, y.thin⟩
theorem GTape.thin (x : GTape) : x.toD.thin := by
  rw [GTape.toD_eq]
  exact ⟨trivial, trivial, GRead.thins _, trivial⟩
theorem GTape.thins (l : List GTape) : D.thins (l.map GTape.toD) := D.thins_of fun d hd => by obtain ⟨y, _, rfl⟩ := List.mem_map.1 hd; exact ⟨by rw [GTape.sz_eq]; omega, y.thin⟩
end Go.Proofs.YtdjcflnemnknaaaDoor

namespace Go.Proofs.YtdjcflnemnknaaaDoor
open Go.RowKit
set_option linter.unusedSimpArgs false
set_option linter.unusedVariables false

theorem ret_str {a b : ByteArray} (h : a = b) : Ending.returned (.string a) = .returned (.string b) := by rw [h]
def RetBW (v : Value) (w : World) (e : Ending) (w' : World) : Prop := e = .returned v ∧ Below w.heap.size w w'
theorem decN_len (n : Nat) : (decN n).length ≤ n := by
  induction n using Nat.strongRecOn with
  | ind n ih =>
    by_cases h : n = 0
    · subst h; rw [decN_zero]; simp
    · rw [decN_pos h, List.length_append]
      have := ih (n / 10) (by omega)
      simp only [List.length_cons, List.length_nil]
      omega
theorem conv1 (w : World) (g n : Nat) (hn : n < 256) (hc : w.cell? ⟨g, 0, none⟩ = some (.int .u8 (n : Int))) :
    (convert 96 9 (.slice (some ⟨g, 0, none⟩) 1 1)).run Tryd.prog w = .ok (.string ⟨#[UInt8.ofNat n]⟩) w := by
  have h := run_convert_bytes_back (P := Tryd.prog) w 96 9 5 ⟨g, 0, none⟩ 1 [UInt8.ofNat n] Tryd.underlying96 Tryd.underlying5 Tryd.underlying9 (fun j hj => by
    have : j = 0 := by simpa using hj
    subst this
    have e : ((UInt8.ofNat n).toNat : Int) = (n : Int) := by simp; omega
    simp only [List.getElem_cons_zero, e]
    exact hc)
  exact h
set_option maxRecDepth 20000 in
set_option maxHeartbeats 1000000 in
theorem markText_any (k : Int) (w : World) (hk : k ≤ 4611686018427387904) : Calls Tryd.prog 95 #[.int .i64 k] w (RetBW (.string (mtxt k)) w) := by
  by_cases h : k ≤ 0
  · go_enter Tryd.func95, Tryd.ntmps95
    go_wp2
    go_ret
    exact ⟨ret_str (by unfold mtxt; rw [if_pos h]), Below.refl _ _⟩
  · obtain ⟨n, rfl⟩ := Int.eq_ofNat_of_zero_le (show 0 ≤ k by omega)
    go_enter Tryd.func95, Tryd.ntmps95
    go_wp2
    go_loopw [0, 3] (fun kv ov wr => ∃ (m : Nat) (l : List UInt8), m ≤ n ∧ kv = .int .i64 m ∧ ov = .string ⟨l.toArray⟩ ∧ decN n = decN m ++ l ∧ Below w.heap.size w wr) (fun kv _ _ => (intOf kv).toNat)
    case atStart => exact ⟨n, [], by omega, rfl, rfl, by simp, Below.refl _ _⟩
    case round =>
      obtain ⟨m, l, hmn, rfl, rfl, hd, hb⟩ := hrel
      have hl : l.length ≤ n := by have := decN_len n; rw [hd, List.length_append] at this; omega
      have hd' := Lib.hid hd
      clear hd
      by_cases hm : m = 0
      · have hm' : ¬ (0 : Int) < (m : Int) := by omega
        go_wp2
        go_ret
        refine ⟨ret_str ?_, hb⟩
        subst hm
        have e := hd'.out
        rw [decN_zero, List.nil_append] at e
        unfold mtxt
        rw [if_neg (by omega), Int.toNat_natCast, e, ByteArray.mk_append_mk]
        rfl
      · have hm' : (0 : Int) < (m : Int) := by omega
        have hcv := conv1 (wr.alloc (.cells #[.int .u8 (48 + (m : Int) % 10)] 5)) wr.heap.size (48 + m % 10) (by omega) (by simp)
        obtain ⟨c, hc⟩ : ∃ c : UInt8, c = UInt8.ofNat (48 + m % 10) := ⟨_, rfl⟩
        rw [← hc] at hcv
        have hc' := Lib.hid hc
        clear hc
        go_wp2
        go_roundw
        case rel => exact ⟨m / 10, c :: l, by omega, by simp, by rw [ByteArray.mk_append_mk]; rfl, by rw [hd'.out, decN_pos hm, List.append_assoc, ← hc'.out]; rfl, hb.alloc hb.size _⟩
        case measure => (simp [intOf] <;> omega)
end Go.Proofs.YtdjcflnemnknaaaDoor

namespace Go.Proofs.YtdjcflnemnknaaaDoor
open Go.RowKit
set_option linter.unusedSimpArgs false
set_option linter.unusedVariables false

theorem Row.drew {w : World} {g : Nat} {e : TypeId} {xs : List Value} (h : Row w g e xs) : Row w.drew g e xs := h
theorem Row.new_at {w : World} {e : TypeId} {cs : Array Value} {g : Nat} (hg : w.heap.size = g) : Row (w.alloc (.cells cs e)) g e cs.toList := by
  subst hg
  exact Row.new w e cs

/-- A kind of element: its slice's type, its own type, its size. -/
structure EK (P : Program) where
  t : TypeId
  e : TypeId
  s : Nat
  ht : P.underlying t = some (.slice e)
  info : ∃ (i : TypeInfo) (z : Value), P.info? e = some i ∧ i.zero = some z ∧ i.size = s ∧ i.bytes ≤ 1024 ∧ z.cells.size = s
  h0 : 0 < s

/-- A slice that is the call's own: nil, or a row of its own; its elements' own blocks are fresh too. -/
def OwnG (w : World) (base : Nat) (e : TypeId) (s : Nat) (l : List D) (f : List Nat) (v : Value) : Prop :=
  ∃ cs, w.ownsRow base e s v l.length cs ∧ Rs w l f cs ∧ Free w base f ∧ ∀ g, v.ownBlock = some g → g ∉ f

/-- What may be appended: the cells of a list of data, somewhere. -/
def Src (w : World) (l : List D) (f : List Nat) (v : Value) : Prop :=
  ∃ A c cs, v = .slice A l.length c ∧ Rs w l f cs ∧ ((l = [] ∧ cs = []) ∨ ∃ b o, A = some ⟨b, o, none⟩ ∧ b < w.heap.size ∧ At w b o cs)

theorem Src.of_sl {w : World} {l : List D} {fp : List Nat} {v : Value} (h : Sl w l fp v) : ∃ f, Src w l f v ∧ (∀ x ∈ f, x ∈ fp) := by
  obtain ⟨A, c, rfl, _, _⟩ := h.form
  obtain ⟨_, f, cs, h1, h2, h3⟩ := h.cells
  exact ⟨f, ⟨A, c, cs, rfl, h1, h3⟩, h2⟩
theorem Src.of_flat {w : World} {l : List D} {fp : List Nat} {v : Value} (h : Sl w l fp v) (hf : ∀ (f : List Nat) (cs : List Value), Rs w l f cs → f = []) : Src w l [] v := by
  obtain ⟨f, ⟨A, c, cs, h1, h2, h3⟩, _⟩ := Src.of_sl h
  have := hf f cs h2
  subst this
  exact ⟨A, c, cs, h1, h2, h3⟩
theorem Src.one {w : World} {g : Nat} {e : TypeId} {cs : List Value} {d : D} {f : List Nat} (h : Row w g e cs) (hR : R w d f cs) : Src w [d] f (.slice (some ⟨g, 0, none⟩) 1 1) :=
  ⟨_, _, cs, rfl, Rs.one hR, Or.inr ⟨g, 0, rfl, h.lt, fun j u hj => by rw [Nat.zero_add, h.cell, hj]⟩⟩
theorem Src.two {w : World} {g : Nat} {e : TypeId} {cs : List Value} {l : List D} {f : List Nat} {n : Nat} (h : Row w g e cs) (hR : Rs w l f cs) (hn : l.length = n) : Src w l f (.slice (some ⟨g, 0, none⟩) n n) := by
  subst hn
  exact ⟨_, _, cs, rfl, hR, Or.inr ⟨g, 0, rfl, h.lt, fun j u hj => by rw [Nat.zero_add, h.cell, hj]⟩⟩

section
variable {w w' : World} {base : Nat} {e : TypeId} {s : Nat} {l : List D} {f : List Nat} {v : Value}
theorem OwnG.sl (h : OwnG w base e s l f v) : Sl w l (v.ownBlock.toList ++ f) v := by
  obtain ⟨cs, h1, h2, _⟩ := h
  exact Sl.of_own h1 h2
theorem OwnG.free (h : OwnG w base e s l f v) : Free w base (v.ownBlock.toList ++ f) := by
  obtain ⟨cs, h1, h2, h3, h4⟩ := h
  exact Free.of_own h1 h3 h4
theorem OwnG.lit {g : Nat} (hg : w.heap.size = g) (hb : base ≤ g) : OwnG (w.alloc (.cells #[] e)) base e s [] [] (.slice (some ⟨g, 0, none⟩) 0 0) := by
  subst hg
  exact ⟨[], World.ownsRow_lit w #[] 0 hb (by simp) (by simp), ⟨rfl, rfl⟩, Free.nil, fun _ _ => by simp⟩
theorem OwnG.nil : OwnG w base e s [] [] (.slice none 0 0) :=
  ⟨[], ⟨by simp, Or.inl ⟨rfl, rfl⟩⟩, ⟨rfl, rfl⟩, Free.nil, fun _ _ => by simp⟩
theorem OwnG.lt (h : OwnG w base e s l f v) : ∀ x ∈ f, x < w.heap.size := by
  obtain ⟨cs, h1, h2, _⟩ := h
  exact Rs.lt h2
theorem OwnG.below (h : OwnG w base e s l f v) (hb : Below w.heap.size w w') : OwnG w' base e s l f v := by
  obtain ⟨cs, h1, h2, h3, h4⟩ := h
  exact ⟨cs, ownsRow_below h1 hb, h2.below hb, h3.below (Rs.lt h2) hb, h4⟩
theorem OwnG.far (h : OwnG w base e s l f v) {a : Addr} (ha : v.ownBlock ≠ some a.block) (hf : a.block ∉ f) (u : Value) : OwnG (w.setCell a u) base e s l f v := by
  obtain ⟨cs, h1, h2, h3, h4⟩ := h
  exact ⟨cs, ownsRow_far h1 ha u, h2.setCell hf u, h3.setCell hf u, h4⟩
theorem OwnG.mono {base' : Nat} (h : OwnG w base e s l f v) (hb : base' ≤ base) : OwnG w base' e s l f v := by
  obtain ⟨cs, h1, h2, h3, h4⟩ := h
  exact ⟨cs, ownsRow_mono h1 hb, h2, h3.mono hb, h4⟩
theorem OwnG.form (h : OwnG w base e s l f v) : ∃ A c, v = .slice A l.length c := by
  obtain ⟨cs, h1, _⟩ := h
  exact ownsRow_form h1
theorem OwnG.ge (h : OwnG w base e s l f v) : ∀ g, v.ownBlock = some g → base ≤ g ∧ g < w.heap.size := by
  obtain ⟨cs, h1, _⟩ := h
  intro g hg
  exact World.ownsRow.lt h1 g hg
theorem OwnG.tos {W : World} (h : OwnG w' W.heap.size e s l f v) (hb : Below W.heap.size W w') : TosPost l W (.returned v) w' := ⟨_, v, rfl, h.sl, h.free, hb⟩
end
theorem run_append_G {P : Program} {w : World} (k : EK P) (ty : TypeId) (base : Nat) (v : Value) (l0 : List D) (f0 : List Nat) (hown : OwnG w base k.e k.s l0 f0 v) (l : List D) (f : List Nat) (vx : Value) (hsrc : Src w l f vx)
    (h1 : ∀ d ∈ l, d.one) (hds : ∀ d ∈ l, d.sz = k.s) (hF : Free w base f) (hdis : ∀ x ∈ f, x ∉ f0 ∧ v.ownBlock ≠ some x) (hn : l0.length + l.length ≤ 4194304) (hbase : base ≤ w.heap.size) :
    ∃ v' w', (Builtin.append_ #[k.t, k.t] ty #[v, vx]).run P w = .ok v' w' ∧ OwnG w' base k.e k.s (l0 ++ l) (f0 ++ f) v' ∧ w.grownBy w' v.ownBlock ∧ (v'.ownBlock = v.ownBlock ∨ v'.ownBlock = some w.heap.size) := by
  obtain ⟨cs0, o1, o2, o3, o4⟩ := hown
  obtain ⟨A, c, cs, rfl, hr, hcs⟩ := hsrc
  obtain ⟨i, z, hi, hz, hsz, hby, hzs⟩ := k.info
  have h0 := k.h0
  have hlen : cs.length = l.length * k.s := by rw [hr.len, szs_const _ hds]
  have h63 : l0.length + l.length ≤ maxLen := by unfold maxLen; omega
  have hbytes : (l0.length + l.length) * i.bytes ≤ 140737488355328 := Nat.le_trans (Nat.mul_le_mul hn hby) (by decide)
  have key : ∃ v' w', (Builtin.append_ #[k.t, k.t] ty #[v, .slice A l.length c]).run P w = .ok v' w' ∧ w'.ownsRow base k.e k.s v' (l0.length + l.length) (cs0 ++ cs) ∧ w.grownBy w' v.ownBlock ∧ (v'.ownBlock = v.ownBlock ∨ v'.ownBlock = some w.heap.size) := by
    rcases hcs with ⟨rfl, rfl⟩ | ⟨b, o, rfl, hb, ha⟩
    · cases A with
      | none => exact ⟨v, w, run_append_of_nil base k.t ty k.e i k.s k.ht hi v _ _ o1 c, by simpa using o1, World.grownBy.refl w _, .inl rfl⟩
      | some ad =>
        obtain ⟨v', w', hrun, h2, h3, _, h5⟩ := run_append_own_at (P := P) w base k.t ty k.e i z k.s i.bytes k.ht hi hz hsz rfl hzs h0 v _ _ o1 ad 0 c [] (by simp) (fun j u hj => by simp at hj) (by simp) (by simpa using h63) (by simpa using hbytes) hbase
        exact ⟨v', w', hrun, by simpa using h2, h3, h5⟩
    · have hadd : ∀ j, (⟨b, o, none⟩ : Addr).add j = ⟨b, o + j, none⟩ := fun j => by
        unfold Addr.add
        split
        · next h => subst h; rfl
        · rfl
      obtain ⟨v', w', hrun, h2, h3, _, h5⟩ := run_append_own_at (P := P) w base k.t ty k.e i z k.s i.bytes k.ht hi hz hsz rfl hzs h0 v _ _ o1 ⟨b, o, none⟩ l.length c cs hlen (fun j u hj => by rw [hadd]; exact ha j u hj) (hr.one_ (D.ones_of h1)) h63 hbytes hbase
      exact ⟨v', w', hrun, h2, h3, h5⟩
  obtain ⟨v', w', hrun, h2, hg, hat⟩ := key
  have hl0 := Rs.lt o2
  have hl1 := Rs.lt hr
  have r0 := o2.grown hg (fun g hgv => o4 g hgv)
  have r1 := hr.grown hg (fun g hgv hm => (hdis g hm).2 hgv)
  refine ⟨v', w', hrun, ⟨cs0 ++ cs, by rw [List.length_append]; exact h2, Rs.append r1 r0, ⟨List.nodup_append.2 ⟨o3.1, hF.1, fun a ha b hb' e => (hdis b hb').1 (e ▸ ha)⟩, fun b hb => ?_⟩, fun g hgv hm => ?_⟩, hg, hat⟩
  · have hold : base ≤ b ∧ (∀ o, w.frozen? ⟨b, o, none⟩ = false) ∧ b < w.heap.size ∧ some b ≠ v.ownBlock := by
      rcases List.mem_append.1 hb with h | h
      · exact ⟨(o3.2 b h).1, (o3.2 b h).2, hl0 b h, fun e => o4 b e.symm h⟩
      · exact ⟨(hF.2 b h).1, (hF.2 b h).2, hl1 b h, fun e => (hdis b h).2 e.symm⟩
    exact ⟨hold.1, fun o => by rw [World.frozen?_of_block (w := w) (hg.block b hold.2.2.1 hold.2.2.2)]; exact hold.2.1 o⟩
  · rcases hat with h | h
    · rw [h] at hgv
      rcases List.mem_append.1 hm with h' | h'
      · exact o4 g hgv h'
      · exact (hdis g h').2 hgv
    · rw [h] at hgv
      injection hgv with e
      subst e
      rcases List.mem_append.1 hm with h' | h'
      · exact Nat.lt_irrefl _ (hl0 _ h')
      · exact Nat.lt_irrefl _ (hl1 _ h')

theorem wp_append_G {P : Program} {w : World} {o : Oper} {a : Act} {K : Act → World → Prop} {Q : Exit → Act → World → Prop} (k : EK P) (s x : Operand)
    (ho : o.op = .call { callee := .builtin .append, args := #[s, x], argTypes := #[k.t, k.t] })
    (base : Nat) (v : Value) (hs : a.eval s = v) (l0 : List D) (f0 : List Nat) (hown : OwnG w base k.e k.s l0 f0 v) (l : List D) (f : List Nat) (vx : Value) (hx : a.eval x = vx) (hsrc : Src w l f vx)
    (h1 : ∀ d ∈ l, d.one) (hds : ∀ d ∈ l, d.sz = k.s) (hF : Free w base f) (hdis : ∀ x ∈ f, x ∉ f0 ∧ v.ownBlock ≠ some x) (hn : l0.length + l.length ≤ 4194304) (hbase : base ≤ w.heap.size)
    (h : ∀ v' w', OwnG w' base k.e k.s (l0 ++ l) (f0 ++ f) v' → w.grownBy w' v.ownBlock → (v'.ownBlock = v.ownBlock ∨ v'.ownBlock = some w.heap.size) → K (a.put o.dst v') w') : o.wp P a w K Q := by
  obtain ⟨v', w', hrun, h2, h3, h4⟩ := run_append_G (P := P) k o.type base v l0 f0 hown l f vx hsrc h1 hds hF hdis hn hbase
  unfold Oper.wp execOp
  simp only [ho, resolve, invoke, builtin, Sem.run_bind, Sem.run_pure, Result.andThen_ok, List.map_toArray, List.map_cons, List.map_nil, hs, hx, hrun]
  exact h v' w' h2 h3 h4
theorem wpList_append_G {P : Program} {w : World} {ops : Array Oper} {rest : List Oper} {o : Oper} {a : Act} {Q : Exit → Act → World → Prop} (hgd : o.guard = none) (k : EK P) (s x : Operand)
    (ho : o.op = .call { callee := .builtin .append, args := #[s, x], argTypes := #[k.t, k.t] })
    (base : Nat) (v : Value) (hs : a.eval s = v) (l0 : List D) (f0 : List Nat) (hown : OwnG w base k.e k.s l0 f0 v) (l : List D) (f : List Nat) (vx : Value) (hx : a.eval x = vx) (hsrc : Src w l f vx)
    (h1 : ∀ d ∈ l, d.one) (hds : ∀ d ∈ l, d.sz = k.s) (hF : Free w base f) (hdis : ∀ x ∈ f, x ∉ f0 ∧ v.ownBlock ≠ some x) (hn : l0.length + l.length ≤ 4194304) (hbase : base ≤ w.heap.size)
    (h : ∀ v' w', OwnG w' base k.e k.s (l0 ++ l) (f0 ++ f) v' → w.grownBy w' v.ownBlock → (v'.ownBlock = v.ownBlock ∨ v'.ownBlock = some w.heap.size) → wpList P ops Q rest (a.put o.dst v') w') : wpList P ops Q (o :: rest) a w :=
  wpList_plain hgd fun _ hK => wp_append_G k s x ho base v hs l0 f0 hown l f vx hx hsrc h1 hds hF hdis hn hbase fun v' w' h2 h3 h4 => hK _ _ (h v' w' h2 h3 h4)
theorem step_append_G {P : Program} {w : World} {ops : Array Oper} {o : Oper} {a : Act} {K : Act → World → Prop} {Q : Exit → Act → World → Prop} {E : Prop} (hgd : o.guard = none) (k : EK P) (s x : Operand)
    (ho : o.op = .call { callee := .builtin .append, args := #[s, x], argTypes := #[k.t, k.t] })
    (base : Nat) (v : Value) (hs : a.eval s = v) (l0 : List D) (f0 : List Nat) (hown : OwnG w base k.e k.s l0 f0 v) (l : List D) (f : List Nat) (vx : Value) (hx : a.eval x = vx) (hsrc : Src w l f vx)
    (h1 : ∀ d ∈ l, d.one) (hds : ∀ d ∈ l, d.sz = k.s) (hF : Free w base f) (hdis : ∀ x ∈ f, x ∉ f0 ∧ v.ownBlock ≠ some x) (hn : l0.length + l.length ≤ 4194304) (hbase : base ≤ w.heap.size)
    (h : ∀ v' w', OwnG w' base k.e k.s (l0 ++ l) (f0 ++ f) v' → w.grownBy w' v.ownBlock → (v'.ownBlock = v.ownBlock ∨ v'.ownBlock = some w.heap.size) → K (a.put o.dst v') w') :
    if Region.wanted o (yielded ops a.tmps) = true then Oper.wp P o a w K Q else E := by
  have hw : Region.wanted o (yielded ops a.tmps) = true := by simp [Region.wanted, hgd]
  rw [if_pos hw]
  exact wp_append_G k s x ho base v hs l0 f0 hown l f vx hx hsrc h1 hds hF hdis hn hbase h

/-- A block that was grown past: what is behind the call's beginning. -/
theorem below_own {B : Nat} {a w w1 : World} {v : Value} (hb : Below B a w) (hg : w.grownBy w1 v.ownBlock) (hs : B ≤ w.heap.size) (hv : ∀ g, v.ownBlock = some g → B ≤ g) : Below B a w1 := hb.grown hg hs hv
theorem free_nil {w : World} {base : Nat} : Free w base [] := Free.nil
theorem dis_nil {f0 : List Nat} {v : Value} : ∀ x ∈ ([] : List Nat), x ∉ f0 ∧ v.ownBlock ≠ some x := fun x hx => by simp at hx

/-! ### Parts of slices -/
theorem Sl.take {w : World} {l : List D} {fp : List Nat} {A : Option Addr} {n cap k : Nat} (h : Sl w l fp (.slice A n cap)) (hk : k ≤ l.length) : ∃ f, Sl w (l.take k) f (.slice A k cap) ∧ ∀ x ∈ f, x ∈ fp := by
  unfold Sl at h ⊢
  rw [R] at h
  obtain ⟨A', cap', h1, h2, h3, h4⟩ := h
  simp only [List.cons.injEq, and_true, Value.slice.injEq] at h1
  obtain ⟨rfl, rfl, rfl⟩ := h1
  have hl : (l.take k).length = k := by rw [List.length_take]; omega
  rcases h4 with ⟨rfl, rfl⟩ | ⟨b, o, fp', cs', rfl, rfl, hb, hr, ha⟩
  · have : k = 0 := by simpa using hk
    subst this
    refine ⟨[], ?_, fun _ hx => hx⟩
    rw [R]
    exact ⟨A, cap, by simp, by simp, h3, Or.inl ⟨by simp, rfl⟩⟩
  · have hr' := hr
    rw [← List.take_append_drop k l] at hr'
    obtain ⟨f1, f2, c1, c2, rfl, rfl, r1, r2⟩ := Rs.split hr'
    refine ⟨b :: f1, ?_, fun x hx => by
      rcases List.mem_cons.1 hx with rfl | h
      · simp
      · simp [h]⟩
    rw [R]
    exact ⟨_, cap, by rw [hl], by rw [hl]; omega, h3, Or.inr ⟨b, o, f1, c1, rfl, rfl, hb, r1, ha.left⟩⟩
theorem Sl.drop {w : World} {l : List D} {fp : List Nat} {b o n cap k s : Nat} (h : Sl w l fp (.slice (some ⟨b, o, none⟩) n cap)) (hs : ∀ d ∈ l, d.sz = s) (hk : k ≤ l.length) : ∃ f, Sl w (l.drop k) f (.slice (some ⟨b, o + k * s, none⟩) (n - k) (cap - k)) ∧ ∀ x ∈ f, x ∈ fp := by
  unfold Sl at h ⊢
  rw [R] at h
  obtain ⟨A', cap', h1, h2, h3, h4⟩ := h
  simp only [List.cons.injEq, and_true, Value.slice.injEq] at h1
  obtain ⟨rfl, rfl, rfl⟩ := h1
  have hl : (l.drop k).length = l.length - k := List.length_drop
  rcases h4 with ⟨rfl, rfl⟩ | ⟨b', o', fp', cs', hbo, rfl, hb, hr, ha⟩
  · refine ⟨[], ?_, fun _ hx => hx⟩
    rw [R]
    exact ⟨some ⟨b, o + k * s, none⟩, cap - k, by simp, by simp, by omega, Or.inl ⟨by simp, rfl⟩⟩
  · injection hbo with hbo
    injection hbo with hb1 hb2 _
    subst hb1 hb2
    have hr' := hr
    rw [← List.take_append_drop k l] at hr'
    obtain ⟨f1, f2, c1, c2, rfl, rfl, r1, r2⟩ := Rs.split hr'
    have hc1 : c1.length = k * s := by rw [r1.len, szs_const (s := s) _ (fun d hd => hs d (List.mem_of_mem_take hd)), List.length_take, Nat.min_eq_left hk]
    refine ⟨b :: f2, ?_, fun x hx => by
      rcases List.mem_cons.1 hx with rfl | h
      · simp
      · simp [h]⟩
    rw [R]
    exact ⟨_, _, by rw [hl], by rw [hl]; omega, by omega, Or.inr ⟨b, o + k * s, f2, c2, rfl, rfl, hb, r2, by have := ha.right; rwa [hc1] at this⟩⟩

theorem ek_info {P : Program} {e : TypeId} {s : Nat} (h : (P.info? e).map (fun i => (i.zero.map (fun z => z.cells.size), i.size, decide (i.bytes ≤ 1024))) = some (some s, s, true)) :
    ∃ (i : TypeInfo) (z : Value), P.info? e = some i ∧ i.zero = some z ∧ i.size = s ∧ i.bytes ≤ 1024 ∧ z.cells.size = s := by
  obtain ⟨i, hi, h2⟩ := Option.map_eq_some_iff.1 h
  simp only [Prod.mk.injEq, decide_eq_true_eq] at h2
  obtain ⟨hz, hs, hb⟩ := h2
  obtain ⟨z, hz1, hz2⟩ := Option.map_eq_some_iff.1 hz
  exact ⟨i, z, hi, hz1, hs, hb, hz2⟩
theorem addr_add_zero (a : Addr) : a.add (0 : Nat) = a := by unfold Addr.add; simp
theorem EK.elem {P : Program} (k : EK P) : P.elem k.t = k.e := by
  have h := k.ht
  simp only [Program.elem]
  rw [h]
theorem EK.sizeOf {P : Program} (k : EK P) (w : World) : (Go.sizeOf k.e).run P w = .ok k.s w := by
  obtain ⟨i, z, hi, hz, hs, _, _⟩ := k.info
  simp [Go.sizeOf, typeInfo, hi, hs]
theorem EK.sub_hi {P : Program} (k : EK P) {A : Option Addr} {n cap : Nat} (hi : Nat) (h : hi ≤ n) (hc : n ≤ cap) (w : World) :
    (Instr.slice k.t (.slice A n cap) none (some (.int .i64 (hi : Int))) none).run P w = .ok (.slice A hi cap) w := by
  have ht : P.underlying k.t = some (.slice (P.elem k.t)) := by rw [k.elem]; exact k.ht
  rw [run_slice_h (P := P) w k.t A n cap ht .i64 (hi : Int) (by omega) (by omega), k.elem, k.sizeOf]
  simp only [Result.andThen, sliced, Int.toNat_natCast, Nat.sub_zero, Nat.zero_mul]
  congr 2
  split
  · rfl
  · cases A with
    | none => rfl
    | some a => simp [addr_add_zero]
theorem EK.sub_lo {P : Program} (k : EK P) {A : Option Addr} {n cap : Nat} (lo : Nat) (h : lo ≤ n) (hc : n ≤ cap) :
    ∃ A', (∀ w : World, (Instr.slice k.t (.slice A n cap) (some (.int .i64 (lo : Int))) none none).run P w = .ok (.slice A' (n - lo) (cap - lo)) w) ∧
      ∀ (w : World) (l : List D) (fp : List Nat), (∀ d ∈ l, d.sz = k.s) → Sl w l fp (.slice A n cap) → ∃ f, Sl w (l.drop lo) f (.slice A' (n - lo) (cap - lo)) ∧ ∀ x ∈ f, x ∈ fp := by
  have ht : P.underlying k.t = some (.slice (P.elem k.t)) := by rw [k.elem]; exact k.ht
  refine ⟨if cap = lo then A else A.map (·.add (lo * k.s)), fun w => ?_, fun w l fp hs hS => ?_⟩
  · rw [run_slice_l (P := P) w k.t A n cap ht .i64 (lo : Int) (by omega) (by omega), k.elem, k.sizeOf]
    simp only [Result.andThen, sliced, Int.toNat_natCast]
  · have hn : n = l.length := by
      obtain ⟨A', c', h1, _, _⟩ := hS.form
      injection h1
    have hcap : cap ≤ maxLen := by
      obtain ⟨A', c', h1, _, h3⟩ := hS.form
      injection h1 with _ _ e
      omega
    subst hn
    by_cases hd : l.drop lo = []
    · have hl : l.length - lo = 0 := by have := congrArg List.length hd; simpa using this
      refine ⟨[], ?_, fun _ hx => by simp at hx⟩
      unfold Sl
      rw [hd, R, hl]
      exact ⟨_, _, rfl, by simp, by omega, Or.inl ⟨rfl, rfl⟩⟩
    · have hlt : lo < l.length := by
        rcases Nat.lt_or_ge lo l.length with h1 | h1
        · exact h1
        · exact absurd (List.drop_eq_nil_of_le h1) hd
      rw [if_neg (by omega)]
      have hS' := hS
      unfold Sl at hS'
      rw [R] at hS'
      obtain ⟨A', c', h1, _, _, h4⟩ := hS'
      simp only [List.cons.injEq, and_true, Value.slice.injEq] at h1
      obtain ⟨rfl, _, rfl⟩ := h1
      rcases h4 with ⟨rfl, _⟩ | ⟨b, o, fp', cs', rfl, _⟩
      · simp at hlt
      · obtain ⟨f, h5, h6⟩ := Sl.drop hS hs h
        refine ⟨f, ?_, h6⟩
        have ha : (⟨b, o, none⟩ : Addr).add (lo * k.s) = ⟨b, o + lo * k.s, none⟩ := by
          unfold Addr.add
          split
          · next h => rw [h]; rfl
          · rfl
        rw [Option.map_some, ha]
        exact h5

/-- The first k of an owned row of flat elements. -/
theorem OwnG.trunc {w : World} {base : Nat} {e : TypeId} {s : Nat} {l : List D} {A : Option Addr} {n c k : Nat} (h : OwnG w base e s l [] (.slice A n c)) (hds : ∀ d ∈ l, d.sz = s) (hk : k ≤ l.length) : OwnG w base e s (l.take k) [] (.slice A k c) := by
  obtain ⟨cs, ⟨h1, h2⟩, h3, h4, h5⟩ := h
  have hl : (l.take k).length = k := by rw [List.length_take]; omega
  have h3' := h3
  rw [← List.take_append_drop k l] at h3'
  obtain ⟨f1, f2, c1, c2, hf, rfl, r1, r2⟩ := Rs.split h3'
  obtain ⟨rfl, rfl⟩ := List.append_eq_nil_iff.1 hf.symm
  have hc1 : c1.length = k * s := by rw [r1.len, szs_const (s := s) _ (fun d hd => hds d (List.mem_of_mem_take hd)), hl]
  refine ⟨c1, ⟨by rw [hl]; exact hc1, ?_⟩, r1, Free.nil, fun _ _ => by simp⟩
  rcases h2 with ⟨h6, h7⟩ | ⟨g, cap, cur, h6, h7, h8, h9, h10, h11, h12⟩
  · have : k = 0 := by omega
    subst this
    injection h6 with h61 h62 h63
    subst h61 h63
    exact Or.inl ⟨rfl, by rw [hl]⟩
  · injection h6 with h61 h62 h63
    subst h61 h63
    refine Or.inr ⟨g, c, cur, by rw [hl], h7, h8, by rw [hl]; omega, h10, h11, ?_⟩
    rw [hl]
    have := congrArg (List.take (k * s)) h12
    rw [List.take_take, Nat.min_eq_left (Nat.mul_le_mul_right s hk), ← hc1, List.take_left'] at this
    · rw [← hc1]; exact this
    · rfl
theorem OwnG.drewN {w : World} {base : Nat} {e : TypeId} {s : Nat} {l : List D} {f : List Nat} {v : Value} (h : OwnG w base e s l f v) (n : Nat) : OwnG (w.drewN n) base e s l f v := h.below (below_drewN (Below.refl _ _) n)

theorem OwnG.formPos {w : World} {base : Nat} {e : TypeId} {s : Nat} {l : List D} {f : List Nat} {v : Value} (h : OwnG w base e s l f v) (hl : 0 < l.length) : ∃ g c, v = .slice (some ⟨g, 0, none⟩) l.length c := by
  obtain ⟨cs, ⟨h1, h2⟩, _⟩ := h
  rcases h2 with ⟨_, h3⟩ | ⟨g, cap, cur, h3, _⟩
  · omega
  · exact ⟨g, cap, h3⟩
end Go.Proofs.YtdjcflnemnknaaaDoor

namespace Go.Proofs.YtdjcflnemnknaaaDoor
open Go.RowKit Go.ChangeShapes Go.WideShapes
set_option linter.unusedSimpArgs false
set_option linter.unusedVariables false

section
variable {H : Type} {enc : TypeId × Value → H} {P : Program} {w : World} {spare : Nat → Bool}

/-- The parts of a struct, segment by segment. -/
def Segs (w : World) (cs : List Value) : Nat → List D → Prop
  | _, [] => True
  | off, d :: l => (∃ fp, R w d fp ((cs.drop off).take d.sz)) ∧ Segs w cs (off + d.sz) l
theorem Segs.cons {cs : List Value} {off s : Nat} {d : D} {l : List D} (hs : d.sz = s) (h : ∃ fp, R w d fp ((cs.drop off).take s)) (t : Segs w cs (off + s) l) : Segs w cs off (d :: l) := by
  subst hs
  exact ⟨h, t⟩
theorem Segs.rs {cs : List Value} : ∀ (l : List D) (off : Nat), Segs w cs off l → cs.length = off + D.szs l → ∃ fp, Rs w l fp (cs.drop off)
  | [], off, _, h => ⟨[], by
      rw [D.szs, Nat.add_zero] at h
      rw [List.drop_eq_nil_of_le (by omega)]
      exact ⟨rfl, rfl⟩⟩
  | d :: l, off, ⟨⟨f1, h1⟩, h2⟩, h => by
    rw [D.szs] at h
    obtain ⟨f2, h3⟩ := Segs.rs l (off + d.sz) h2 (by omega)
    refine ⟨f1 ++ f2, f1, f2, _, _, rfl, ?_, h1, h3⟩
    rw [← List.drop_drop, List.take_append_drop]

def Rdg {α : Type} (enc : TypeId × Value → H) (P : Program) (w : World) (spare : Nat → Bool) (f : α → D) (t : TypeId) (fuel : Nat) : Prop :=
  ∀ (cs : List Value) (x : DataW H × List MemPlace), DataW.trod enc P w 0 spare true fuel t cs = some x → ∃ y : α, (∃ fp, R w (f y) fp cs) ∧ (f y).wf

theorem rd_int {t : TypeId} (ht : P.underlying t = some (.int .i64)) (fuel : Nat) : Rdg enc P w spare li t fuel := fun cs x h => by
  obtain ⟨n, rfl, _, hw⟩ := DataW.trod_int ht h
  exact ⟨n, ⟨[], rfl, rfl⟩, hw⟩
theorem rd_str {t : TypeId} (ht : P.underlying t = some .string) (fuel : Nat) : Rdg enc P w spare ls t fuel := fun cs x h => by
  obtain ⟨n, rfl, _, hw⟩ := DataW.trod_string ht h
  exact ⟨n, ⟨[], rfl, rfl⟩, hw⟩

theorem rs_build {α : Type} (f : α → D) {s : Nat} (hs : ∀ y, (f y).sz = s) {b : Nat} : ∀ (n o : Nat), (∀ i, i < n → ∃ (cs : List Value) (y : α), cs.length = s ∧ At w b (o + i * s) cs ∧ (∃ fp, R w (f y) fp cs) ∧ (f y).wf) →
    ∃ (l : List α) (fp : List Nat) (cs : List Value), l.length = n ∧ Rs w (l.map f) fp cs ∧ At w b o cs ∧ D.wfs (l.map f)
  | 0, _, _ => ⟨[], [], [], rfl, ⟨rfl, rfl⟩, fun j u hj => by simp at hj, trivial⟩
  | n + 1, o, h => by
    obtain ⟨c1, y, hl, ha, ⟨f1, hr⟩, hw⟩ := h 0 (by omega)
    obtain ⟨l, f2, c2, hn, hrs, ha2, hws⟩ := rs_build f hs n (o + s) (fun i hi => by
      obtain ⟨cs, y, h1, h2, h3⟩ := h (i + 1) (by omega)
      refine ⟨cs, y, h1, ?_, h3⟩
      rw [show o + s + i * s = o + (i + 1) * s by rw [Nat.add_mul]; omega]
      exact h2)
    refine ⟨y :: l, f1 ++ f2, c1 ++ c2, by simp [hn], ⟨f1, f2, c1, c2, rfl, rfl, hr, hrs⟩, fun j u hj => ?_, ⟨hw, hws⟩⟩
    by_cases hjl : j < c1.length
    · rw [List.getElem?_append_left hjl] at hj
      have := ha j u hj
      rwa [Nat.zero_mul, Nat.add_zero] at this
    · rw [List.getElem?_append_right (by omega)] at hj
      have := ha2 _ u hj
      rwa [show o + s + (j - c1.length) = o + j by omega] at this

theorem rd_slice {α : Type} {f : α → D} {t e : TypeId} {s : Nat} (ht : P.underlying t = some (.slice e)) (hc : P.cellsOf e = s) (hs : ∀ y, (f y).sz = s) (h0 : 0 < s) (fuel : Nat)
    (he : ∀ n, n < fuel → Rdg enc P w spare f e n) : Rdg enc P w spare (fun l : List α => .sl (l.map f)) t fuel := fun cs x h => by
  rcases DataW.trod_slice ht h with ⟨rfl, _⟩ | ⟨a, len, cap, elems, rest, n, rfl, rfl, _, hb, hlc, hcap, hlen, hel, _, _⟩
  · refine ⟨[], ⟨[], ?_⟩, trivial⟩
    rw [R]
    exact ⟨none, 0, rfl, by simp, by simp, Or.inl ⟨rfl, rfl⟩⟩
  · rw [hc] at hel
    by_cases hz : len = 0
    · subst hz
      refine ⟨[], ⟨[], ?_⟩, trivial⟩
      rw [R]
      exact ⟨some a, cap, rfl, by simp, hcap, Or.inl ⟨rfl, rfl⟩⟩
    · have hel' : ∀ i, i < len → ∃ (cs : List Value), w.cells? 0 (a.add (i * s)) s = some cs ∧ ∃ x, DataW.trod enc P w 0 spare true n e cs = some x := fun i hi => by
        have := hel i hi
        rw [List.getElem?_eq_getElem (by omega)] at this
        obtain ⟨cs, h1, h2⟩ := Option.bind_eq_some_iff.1 this
        exact ⟨cs, h1, _, h2⟩
      have hspot : a.spot = none := by
        obtain ⟨cs, h1, _⟩ := hel' 0 (by omega)
        obtain ⟨_, h2, h3⟩ := World.cells?_some h1
        have h4 := h3 0 h0
        rw [Nat.zero_mul] at h4
        have e1 : (a.add 0).add 0 = a := by simp [Addr.add]
        rw [e1] at h4
        have h5 : (w.cell? a).isSome := by rw [h4, List.getElem?_eq_getElem (by omega)]; rfl
        unfold World.cell? at h5
        cases hsp : a.spot with
        | none => rfl
        | some q => rw [hsp] at h5; split at h5 <;> simp at h5
      obtain ⟨b, o, sp⟩ := a
      simp only at hspot
      subst hspot
      have hadd : ∀ i, (⟨b, o, none⟩ : Addr).add i = ⟨b, o + i, none⟩ := fun i => by
        unfold Addr.add
        split
        · next h => subst h; rfl
        · rfl
      obtain ⟨l, fp, cs', h1, h2, h3, h4⟩ := rs_build (w := w) f hs (b := b) len o (fun i hi => by
        obtain ⟨cs, h1, x, h2⟩ := hel' i hi
        obtain ⟨y, hy, hw⟩ := he n (by omega) cs x h2
        obtain ⟨_, h4, h5⟩ := World.cells?_some h1
        refine ⟨cs, y, h4, fun j u hj => ?_, hy, hw⟩
        have hjl : j < s := by have := (List.getElem?_eq_some_iff.1 hj).1; omega
        have := h5 j hjl
        rw [hadd, show (⟨b, o + i * s, none⟩ : Addr).add j = ⟨b, o + i * s + j, none⟩ from by unfold Addr.add; split <;> simp_all] at this
        rw [this, hj])
      have hb' : b < w.heap.size := by
        have hl0 : cs'.length = len * s := by
          rw [h2.len, szs_const (s := s) _ (fun d hd => by obtain ⟨y, _, rfl⟩ := List.mem_map.1 hd; exact hs y), List.length_map, h1]
        have hpos : 0 < cs'.length := by rw [hl0]; exact Nat.mul_pos (by omega) h0
        have h5 := h3 0 _ (List.getElem?_eq_getElem hpos)
        rcases Nat.lt_or_ge b w.heap.size with hlt | hge
        · exact hlt
        · simp [World.cell?, Array.getElem?_eq_none hge] at h5
      refine ⟨l, ⟨b :: fp, ?_⟩, h4⟩
      rw [R]
      exact ⟨some ⟨b, o, none⟩, cap, by simp [h1], by simp [h1]; exact hlc, hcap, Or.inr ⟨b, o, fp, cs', rfl, rfl, hb', h2, h3⟩⟩

/-- An argument that is a struct. -/
theorem arg_struct {α : Type} {f : α → D} {t : TypeId} {fs : Array Field} {v : Value} {d : DataW H} {p : List MemPlace} {r : Reach} {b0 : Nat} (hs : P.underlying t = some (.struct fs)) (hv : Value.okWide P w r b0 t v)
    (hr : ∀ fuel, Rdg enc P w spare f t fuel) (h : DataW.Trod enc P w 0 spare true t v d p) : ∃ (y : α) (fp : List Nat) (cs : List Value), v = .agg cs.toArray ∧ R w (f y) fp cs ∧ (f y).wf := by
  obtain ⟨cs, rfl, _⟩ := okWide_struct hs hv
  obtain ⟨fuel, hf⟩ := h
  obtain ⟨y, ⟨fp, hy⟩, hw⟩ := hr fuel _ _ hf
  exact ⟨y, fp, cs.toList, by simp, hy, hw⟩
/-- An argument that is a slice. -/
theorem arg_slice {α : Type} {f : α → D} {t e : TypeId} {v : Value} {d : DataW H} {p : List MemPlace} {r : Reach} {b0 : Nat} (hs : P.underlying t = some (.slice e)) (hv : Value.okWide P w r b0 t v)
    (hr : ∀ fuel, Rdg enc P w spare (fun l : List α => .sl (l.map f)) t fuel) (h : DataW.Trod enc P w 0 spare true t v d p) : ∃ (l : List α) (fp : List Nat), Sl w (l.map f) fp v ∧ D.wfs (l.map f) := by
  obtain ⟨a, n, cap, rfl⟩ := okWide_slice hs hv
  obtain ⟨fuel, hf⟩ := h
  obtain ⟨y, ⟨fp, hy⟩, hw⟩ := hr fuel _ _ hf
  exact ⟨y, fp, hy, hw⟩

/-- An argument that is an integer; a string. -/
theorem arg_int {t : TypeId} {v : Value} {d : DataW H} {p : List MemPlace} {r : Reach} {b0 : Nat} (hs : P.underlying t = some (.int .i64)) (hv : Value.okWide P w r b0 t v)
    (h : DataW.Trod enc P w 0 spare true t v d p) : ∃ n : Int, v = .int .i64 n ∧ (Lit.int .i64 n).wf = true := by
  obtain ⟨n, rfl⟩ := okWide_int hs hv
  obtain ⟨fuel, hf⟩ := h
  obtain ⟨m, h1, _, h2⟩ := DataW.trod_int hs hf
  have e : n = m := by simpa [Value.cells] using h1
  exact ⟨n, rfl, e ▸ h2⟩
theorem arg_str {t : TypeId} {v : Value} {d : DataW H} {p : List MemPlace} {r : Reach} {b0 : Nat} (hs : P.underlying t = some .string) (hv : Value.okWide P w r b0 t v)
    (h : DataW.Trod enc P w 0 spare true t v d p) : ∃ s : ByteArray, v = .string s ∧ s.size ≤ maxLen := by
  obtain ⟨n, rfl⟩ := okWide_string hs hv
  obtain ⟨fuel, hf⟩ := h
  obtain ⟨m, h1, _, h2⟩ := DataW.trod_string hs hf
  have e : n = m := by simpa [Value.cells] using h1
  exact ⟨n, rfl, e ▸ h2⟩
end

section
variable {H : Type} {enc : TypeId × Value → H} {w : World} {spare : Nat → Bool}
theorem rd_int0 (fuel : Nat) : Rdg enc Tryd.prog w spare li 3 fuel := rd_int Tryd.underlying3 fuel
theorem rd_str0 (fuel : Nat) : Rdg enc Tryd.prog w spare ls 9 fuel := rd_str Tryd.underlying9 fuel
theorem cellsOf_int : Tryd.prog.cellsOf 3 = 1 := by kernel_rfl
theorem rd_Sint (fuel : Nat) : Rdg enc Tryd.prog w spare (fun l : List Int => .sl (l.map li)) 73 fuel := rd_slice Tryd.underlying73 cellsOf_int (fun y => rfl) (by omega) fuel fun n _ => rd_int0 n
theorem cellsOf_str : Tryd.prog.cellsOf 9 = 1 := by kernel_rfl
theorem rd_Sstr (fuel : Nat) : Rdg enc Tryd.prog w spare (fun l : List ByteArray => .sl (l.map ls)) 41 fuel := rd_slice Tryd.underlying41 cellsOf_str (fun y => rfl) (by omega) fuel fun n _ => rd_str0 n
theorem cellsOf_GOrigin : Tryd.prog.cellsOf 135 = 2 := by kernel_rfl
theorem rd_GOrigin (fuel : Nat) : Rdg enc Tryd.prog w spare GOrigin.toD 135 fuel := fun cs x h => by
  obtain ⟨xs, n, rfl, _, hlen, hxl, hf⟩ := DataW.trod_struct Tryd.underlying135 h
  rw [cellsOf_GOrigin] at hlen
  have h0 : DataW.trod enc Tryd.prog w 0 spare true n 3 ((cs.drop 0).take (Tryd.prog.cellsOf 3)) = xs[0]? := hf 0 _ rfl
  rw [cellsOf_int, List.getElem?_eq_getElem (by rw [hxl]; decide)] at h0
  obtain ⟨y0, hy0, hw0⟩ := (rd_int0 n) _ _ h0
  have h1 : DataW.trod enc Tryd.prog w 0 spare true n 3 ((cs.drop 1).take (Tryd.prog.cellsOf 3)) = xs[1]? := hf 1 _ rfl
  rw [cellsOf_int, List.getElem?_eq_getElem (by rw [hxl]; decide)] at h1
  obtain ⟨y1, hy1, hw1⟩ := (rd_int0 n) _ _ h1
  have hsegs : Segs w cs 0 [li y0, li y1] := (Segs.cons (s := 1) rfl hy0 (Segs.cons (s := 1) rfl hy1 trivial))
  obtain ⟨fp, hr⟩ := hsegs.rs _ 0 (by have := (GOrigin.mk y0 y1).sz_eq; rw [GOrigin.toD_eq] at this; rw [hlen, Nat.zero_add]; exact this.symm)
  refine ⟨GOrigin.mk y0 y1, ⟨fp, ?_⟩, ?_⟩
  · rw [GOrigin.toD_eq, R_agg]; exact hr
  · rw [GOrigin.toD_eq]; exact ⟨hw0, hw1, trivial⟩
theorem rd_SGOrigin (fuel : Nat) : Rdg enc Tryd.prog w spare (fun l : List GOrigin => .sl (l.map GOrigin.toD)) 98 fuel := rd_slice Tryd.underlying98 cellsOf_GOrigin (fun y => y.sz_eq) (by omega) fuel fun n _ => rd_GOrigin n
theorem cellsOf_Sint : Tryd.prog.cellsOf 73 = 1 := by kernel_rfl
theorem cellsOf_SGOrigin : Tryd.prog.cellsOf 98 = 1 := by kernel_rfl
theorem cellsOf_GRow : Tryd.prog.cellsOf 100 = 2 := by kernel_rfl
theorem rd_GRow (fuel : Nat) : Rdg enc Tryd.prog w spare GRow.toD 100 fuel := fun cs x h => by
  obtain ⟨xs, n, rfl, _, hlen, hxl, hf⟩ := DataW.trod_struct Tryd.underlying100 h
  rw [cellsOf_GRow] at hlen
  have h0 : DataW.trod enc Tryd.prog w 0 spare true n 73 ((cs.drop 0).take (Tryd.prog.cellsOf 73)) = xs[0]? := hf 0 _ rfl
  rw [cellsOf_Sint, List.getElem?_eq_getElem (by rw [hxl]; decide)] at h0
  obtain ⟨y0, hy0, hw0⟩ := (rd_Sint n) _ _ h0
  have h1 : DataW.trod enc Tryd.prog w 0 spare true n 98 ((cs.drop 1).take (Tryd.prog.cellsOf 98)) = xs[1]? := hf 1 _ rfl
  rw [cellsOf_SGOrigin, List.getElem?_eq_getElem (by rw [hxl]; decide)] at h1
  obtain ⟨y1, hy1, hw1⟩ := (rd_SGOrigin n) _ _ h1
  have hsegs : Segs w cs 0 [.sl (y0.map li), .sl (y1.map GOrigin.toD)] := (Segs.cons (s := 1) rfl hy0 (Segs.cons (s := 1) rfl hy1 trivial))
  obtain ⟨fp, hr⟩ := hsegs.rs _ 0 (by have := (GRow.mk y0 y1).sz_eq; rw [GRow.toD_eq] at this; rw [hlen, Nat.zero_add]; exact this.symm)
  refine ⟨GRow.mk y0 y1, ⟨fp, ?_⟩, ?_⟩
  · rw [GRow.toD_eq, R_agg]; exact hr
  · rw [GRow.toD_eq]; exact ⟨hw0, hw1, trivial⟩
theorem rd_SGRow (fuel : Nat) : Rdg enc Tryd.prog w spare (fun l : List GRow => .sl (l.map GRow.toD)) 42 fuel := rd_slice Tryd.underlying42 cellsOf_GRow (fun y => y.sz_eq) (by omega) fuel fun n _ => rd_GRow n
theorem cellsOf_SGVal : Tryd.prog.cellsOf 40 = 1 := by kernel_rfl
theorem cellsOf_Sstr : Tryd.prog.cellsOf 41 = 1 := by kernel_rfl
theorem cellsOf_SGRow : Tryd.prog.cellsOf 42 = 1 := by kernel_rfl
theorem cellsOf_GVal : Tryd.prog.cellsOf 44 = 7 := by kernel_rfl
theorem rd_GVal_of (fuel : Nat) (IH : ∀ n, n < fuel → Rdg enc Tryd.prog w spare GVal.toD 44 n) : Rdg enc Tryd.prog w spare GVal.toD 44 fuel := fun cs x h => by
  obtain ⟨xs, n, rfl, _, hlen, hxl, hf⟩ := DataW.trod_struct Tryd.underlying44 h
  rw [cellsOf_GVal] at hlen
  have h0 : DataW.trod enc Tryd.prog w 0 spare true n 3 ((cs.drop 0).take (Tryd.prog.cellsOf 3)) = xs[0]? := hf 0 _ rfl
  rw [cellsOf_int, List.getElem?_eq_getElem (by rw [hxl]; decide)] at h0
  obtain ⟨y0, hy0, hw0⟩ := (rd_int0 n) _ _ h0
  have h1 : DataW.trod enc Tryd.prog w 0 spare true n 3 ((cs.drop 1).take (Tryd.prog.cellsOf 3)) = xs[1]? := hf 1 _ rfl
  rw [cellsOf_int, List.getElem?_eq_getElem (by rw [hxl]; decide)] at h1
  obtain ⟨y1, hy1, hw1⟩ := (rd_int0 n) _ _ h1
  have h2 : DataW.trod enc Tryd.prog w 0 spare true n 3 ((cs.drop 2).take (Tryd.prog.cellsOf 3)) = xs[2]? := hf 2 _ rfl
  rw [cellsOf_int, List.getElem?_eq_getElem (by rw [hxl]; decide)] at h2
  obtain ⟨y2, hy2, hw2⟩ := (rd_int0 n) _ _ h2
  have h3 : DataW.trod enc Tryd.prog w 0 spare true n 9 ((cs.drop 3).take (Tryd.prog.cellsOf 9)) = xs[3]? := hf 3 _ rfl
  rw [cellsOf_str, List.getElem?_eq_getElem (by rw [hxl]; decide)] at h3
  obtain ⟨y3, hy3, hw3⟩ := (rd_str0 n) _ _ h3
  have h4 : DataW.trod enc Tryd.prog w 0 spare true n 40 ((cs.drop 4).take (Tryd.prog.cellsOf 40)) = xs[4]? := hf 4 _ rfl
  rw [cellsOf_SGVal, List.getElem?_eq_getElem (by rw [hxl]; decide)] at h4
  obtain ⟨y4, hy4, hw4⟩ := (rd_slice (f := GVal.toD) Tryd.underlying40 cellsOf_GVal (fun y => y.sz_eq) (by omega) n (fun q hq => IH q (by omega))) _ _ h4
  have h5 : DataW.trod enc Tryd.prog w 0 spare true n 41 ((cs.drop 5).take (Tryd.prog.cellsOf 41)) = xs[5]? := hf 5 _ rfl
  rw [cellsOf_Sstr, List.getElem?_eq_getElem (by rw [hxl]; decide)] at h5
  obtain ⟨y5, hy5, hw5⟩ := (rd_Sstr n) _ _ h5
  have h6 : DataW.trod enc Tryd.prog w 0 spare true n 42 ((cs.drop 6).take (Tryd.prog.cellsOf 42)) = xs[6]? := hf 6 _ rfl
  rw [cellsOf_SGRow, List.getElem?_eq_getElem (by rw [hxl]; decide)] at h6
  obtain ⟨y6, hy6, hw6⟩ := (rd_SGRow n) _ _ h6
  have hsegs : Segs w cs 0 [li y0, li y1, li y2, ls y3, .sl (y4.map GVal.toD), .sl (y5.map ls), .sl (y6.map GRow.toD)] := (Segs.cons (s := 1) rfl hy0 (Segs.cons (s := 1) rfl hy1 (Segs.cons (s := 1) rfl hy2 (Segs.cons (s := 1) rfl hy3 (Segs.cons (s := 1) rfl hy4 (Segs.cons (s := 1) rfl hy5 (Segs.cons (s := 1) rfl hy6 trivial)))))))
  obtain ⟨fp, hr⟩ := hsegs.rs _ 0 (by have := (GVal.mk y0 y1 y2 y3 y4 y5 y6).sz_eq; rw [GVal.toD_eq] at this; rw [hlen, Nat.zero_add]; exact this.symm)
  refine ⟨GVal.mk y0 y1 y2 y3 y4 y5 y6, ⟨fp, ?_⟩, ?_⟩
  · rw [GVal.toD_eq, R_agg]; exact hr
  · rw [GVal.toD_eq]; exact ⟨hw0, hw1, hw2, hw3, hw4, hw5, hw6, trivial⟩
theorem rd_GVal (fuel : Nat) : Rdg enc Tryd.prog w spare GVal.toD 44 fuel := by
  induction fuel using Nat.strongRecOn with
  | ind n ih => exact rd_GVal_of n ih
theorem rd_SGVal (fuel : Nat) : Rdg enc Tryd.prog w spare (fun l : List GVal => .sl (l.map GVal.toD)) 40 fuel := rd_slice Tryd.underlying40 cellsOf_GVal (fun y => y.sz_eq) (by omega) fuel fun n _ => rd_GVal n
theorem cellsOf_GCell : Tryd.prog.cellsOf 23 = 6 := by kernel_rfl
theorem rd_GCell (fuel : Nat) : Rdg enc Tryd.prog w spare GCell.toD 23 fuel := fun cs x h => by
  obtain ⟨xs, n, rfl, _, hlen, hxl, hf⟩ := DataW.trod_struct Tryd.underlying23 h
  rw [cellsOf_GCell] at hlen
  have h0 : DataW.trod enc Tryd.prog w 0 spare true n 3 ((cs.drop 0).take (Tryd.prog.cellsOf 3)) = xs[0]? := hf 0 _ rfl
  rw [cellsOf_int, List.getElem?_eq_getElem (by rw [hxl]; decide)] at h0
  obtain ⟨y0, hy0, hw0⟩ := (rd_int0 n) _ _ h0
  have h1 : DataW.trod enc Tryd.prog w 0 spare true n 3 ((cs.drop 1).take (Tryd.prog.cellsOf 3)) = xs[1]? := hf 1 _ rfl
  rw [cellsOf_int, List.getElem?_eq_getElem (by rw [hxl]; decide)] at h1
  obtain ⟨y1, hy1, hw1⟩ := (rd_int0 n) _ _ h1
  have h2 : DataW.trod enc Tryd.prog w 0 spare true n 3 ((cs.drop 2).take (Tryd.prog.cellsOf 3)) = xs[2]? := hf 2 _ rfl
  rw [cellsOf_int, List.getElem?_eq_getElem (by rw [hxl]; decide)] at h2
  obtain ⟨y2, hy2, hw2⟩ := (rd_int0 n) _ _ h2
  have h3 : DataW.trod enc Tryd.prog w 0 spare true n 9 ((cs.drop 3).take (Tryd.prog.cellsOf 9)) = xs[3]? := hf 3 _ rfl
  rw [cellsOf_str, List.getElem?_eq_getElem (by rw [hxl]; decide)] at h3
  obtain ⟨y3, hy3, hw3⟩ := (rd_str0 n) _ _ h3
  have h4 : DataW.trod enc Tryd.prog w 0 spare true n 9 ((cs.drop 4).take (Tryd.prog.cellsOf 9)) = xs[4]? := hf 4 _ rfl
  rw [cellsOf_str, List.getElem?_eq_getElem (by rw [hxl]; decide)] at h4
  obtain ⟨y4, hy4, hw4⟩ := (rd_str0 n) _ _ h4
  have h5 : DataW.trod enc Tryd.prog w 0 spare true n 3 ((cs.drop 5).take (Tryd.prog.cellsOf 3)) = xs[5]? := hf 5 _ rfl
  rw [cellsOf_int, List.getElem?_eq_getElem (by rw [hxl]; decide)] at h5
  obtain ⟨y5, hy5, hw5⟩ := (rd_int0 n) _ _ h5
  have hsegs : Segs w cs 0 [li y0, li y1, li y2, ls y3, ls y4, li y5] := (Segs.cons (s := 1) rfl hy0 (Segs.cons (s := 1) rfl hy1 (Segs.cons (s := 1) rfl hy2 (Segs.cons (s := 1) rfl hy3 (Segs.cons (s := 1) rfl hy4 (Segs.cons (s := 1) rfl hy5 trivial))))))
  obtain ⟨fp, hr⟩ := hsegs.rs _ 0 (by have := (GCell.mk y0 y1 y2 y3 y4 y5).sz_eq; rw [GCell.toD_eq] at this; rw [hlen, Nat.zero_add]; exact this.symm)
  refine ⟨GCell.mk y0 y1 y2 y3 y4 y5, ⟨fp, ?_⟩, ?_⟩
  · rw [GCell.toD_eq, R_agg]; exact hr
  · rw [GCell.toD_eq]; exact ⟨hw0, hw1, hw2, hw3, hw4, hw5, trivial⟩
theorem rd_SGCell (fuel : Nat) : Rdg enc Tryd.prog w spare (fun l : List GCell => .sl (l.map GCell.toD)) 29 fuel := rd_slice Tryd.underlying29 cellsOf_GCell (fun y => y.sz_eq) (by omega) fuel fun n _ => rd_GCell n
theorem cellsOf_SGCell : Tryd.prog.cellsOf 29 = 1 := by kernel_rfl
theorem cellsOf_GNb : Tryd.prog.cellsOf 31 = 1 := by kernel_rfl
theorem rd_GNb (fuel : Nat) : Rdg enc Tryd.prog w spare GNb.toD 31 fuel := fun cs x h => by
  obtain ⟨xs, n, rfl, _, hlen, hxl, hf⟩ := DataW.trod_struct Tryd.underlying31 h
  rw [cellsOf_GNb] at hlen
  have h0 : DataW.trod enc Tryd.prog w 0 spare true n 29 ((cs.drop 0).take (Tryd.prog.cellsOf 29)) = xs[0]? := hf 0 _ rfl
  rw [cellsOf_SGCell, List.getElem?_eq_getElem (by rw [hxl]; decide)] at h0
  obtain ⟨y0, hy0, hw0⟩ := (rd_SGCell n) _ _ h0
  have hsegs : Segs w cs 0 [.sl (y0.map GCell.toD)] := (Segs.cons (s := 1) rfl hy0 trivial)
  obtain ⟨fp, hr⟩ := hsegs.rs _ 0 (by have := (GNb.mk y0).sz_eq; rw [GNb.toD_eq] at this; rw [hlen, Nat.zero_add]; exact this.symm)
  refine ⟨GNb.mk y0, ⟨fp, ?_⟩, ?_⟩
  · rw [GNb.toD_eq, R_agg]; exact hr
  · rw [GNb.toD_eq]; exact ⟨hw0, trivial⟩
end
end Go.Proofs.YtdjcflnemnknaaaDoor

namespace Go.Proofs.YtdjcflnemnknaaaDoor
open Go.RowKit
set_option linter.unusedSimpArgs false

def ekint : EK Tryd.prog where
  t := 73
  e := 3
  s := 1
  ht := Tryd.underlying73
  info := ek_info (by kernel_rfl)
  h0 := by omega
def ekstr : EK Tryd.prog where
  t := 41
  e := 9
  s := 1
  ht := Tryd.underlying41
  info := ek_info (by kernel_rfl)
  h0 := by omega
def eku8 : EK Tryd.prog where
  t := 96
  e := 5
  s := 1
  ht := Tryd.underlying96
  info := ek_info (by kernel_rfl)
  h0 := by omega
def ekGOrigin : EK Tryd.prog where
  t := 74
  e := 114
  s := 2
  ht := Tryd.underlying74
  info := ek_info (by kernel_rfl)
  h0 := by omega
theorem GOrigin.one_ (x : GOrigin) : x.toD.one := by
  rw [GOrigin.toD_eq]
  simp [D.one, D.ones, li, ls, Value.oneCell']
theorem GOrigin.ones_ {l : List GOrigin} : ∀ d ∈ l.map GOrigin.toD, d.one := fun d h => by obtain ⟨x, _, rfl⟩ := List.mem_map.1 h; exact x.one_
def ekGRow : EK Tryd.prog where
  t := 48
  e := 76
  s := 2
  ht := Tryd.underlying48
  info := ek_info (by kernel_rfl)
  h0 := by omega
theorem GRow.one_ (x : GRow) : x.toD.one := by
  rw [GRow.toD_eq]
  simp [D.one, D.ones, li, ls, Value.oneCell']
theorem GRow.ones_ {l : List GRow} : ∀ d ∈ l.map GRow.toD, d.one := fun d h => by obtain ⟨x, _, rfl⟩ := List.mem_map.1 h; exact x.one_
def ekGVal : EK Tryd.prog where
  t := 47
  e := 50
  s := 7
  ht := Tryd.underlying47
  info := ek_info (by kernel_rfl)
  h0 := by omega
theorem GVal.one_ (x : GVal) : x.toD.one := by
  rw [GVal.toD_eq]
  simp [D.one, D.ones, li, ls, Value.oneCell']
theorem GVal.ones_ {l : List GVal} : ∀ d ∈ l.map GVal.toD, d.one := fun d h => by obtain ⟨x, _, rfl⟩ := List.mem_map.1 h; exact x.one_
def ekGCell : EK Tryd.prog where
  t := 34
  e := 26
  s := 6
  ht := Tryd.underlying34
  info := ek_info (by kernel_rfl)
  h0 := by omega
theorem GCell.one_ (x : GCell) : x.toD.one := by
  rw [GCell.toD_eq]
  simp [D.one, D.ones, li, ls, Value.oneCell']
theorem GCell.ones_ {l : List GCell} : ∀ d ∈ l.map GCell.toD, d.one := fun d h => by obtain ⟨x, _, rfl⟩ := List.mem_map.1 h; exact x.one_
theorem int_ones {l : List Int} : ∀ d ∈ l.map li, d.one := fun d h => by obtain ⟨x, _, rfl⟩ := List.mem_map.1 h; rfl
theorem str_ones {l : List ByteArray} : ∀ d ∈ l.map ls, d.one := fun d h => by obtain ⟨x, _, rfl⟩ := List.mem_map.1 h; rfl
end Go.Proofs.YtdjcflnemnknaaaDoor

namespace Go.Proofs.YtdjcflnemnknaaaDoor
open Go.RowKit
set_option linter.unusedSimpArgs false
set_option linter.unusedVariables false

def inR (n lo hi : Int) : Bool := decide (lo ≤ n) && decide (n ≤ hi)
/-- A call that only draws. -/
def RetQ (v : Value) (w : World) (e : Ending) (w' : World) : Prop := e = .returned v ∧ w = w'
def RetB (v : Value) (w : World) (e : Ending) (w' : World) : Prop := e = .returned v ∧ Below w.heap.size w w'

theorem within_any (n lo hi : Int) (w : World) : Calls Tryd.prog 71 #[.int .i64 n, .int .i64 lo, .int .i64 hi] w (RetQ (.bool (inR n lo hi)) w) := by
  by_cases h1 : lo ≤ n
  · by_cases h2 : n ≤ hi
    · go_enter Tryd.func71, Tryd.ntmps71
      go_wp2
      go_ret
      exact ⟨by simp [inR, h1, h2], rfl⟩
    · have h3 : decide (n ≤ hi) = false := by simpa using h2
      go_enter Tryd.func71, Tryd.ntmps71
      go_wp2
      go_ret
      exact ⟨by simp [inR, h1, h2], rfl⟩
  · have h3 : decide (lo ≤ n) = false := by simpa using h1
    go_enter Tryd.func71, Tryd.ntmps71
    go_wp2
    go_ret
    exact ⟨congrArg (fun b => Ending.returned (.bool b)) (by unfold inR; rw [h3]; rfl), rfl⟩

theorem l1In_any (n lo hi : Int) (w : World) : Calls Tryd.prog 68 #[.int .i64 n, .int .i64 lo, .int .i64 hi] w (RetQ (.bool (inR n lo hi)) w) := by
  by_cases h1 : lo ≤ n
  · by_cases h2 : n ≤ hi
    · go_enter Tryd.func68, Tryd.ntmps68
      go_wp2
      go_ret
      exact ⟨by simp [inR, h1, h2], rfl⟩
    · have h3 : decide (n ≤ hi) = false := by simpa using h2
      go_enter Tryd.func68, Tryd.ntmps68
      go_wp2
      go_ret
      exact ⟨by simp [inR, h1, h2], rfl⟩
  · have h3 : decide (lo ≤ n) = false := by simpa using h1
    go_enter Tryd.func68, Tryd.ntmps68
    go_wp2
    go_ret
    exact ⟨congrArg (fun b => Ending.returned (.bool b)) (by unfold inR; rw [h3]; rfl), rfl⟩

def okPr (c : UInt8) : Bool := decide (32 ≤ (c.toNat : Int)) && decide ((c.toNat : Int) ≤ 126)
def printable (s : ByteArray) : Bool := s.data.toList.all okPr && decide ((s.size : Int) ≤ 120)
theorem all_of {p : UInt8 → Bool} {s : ByteArray} (h : ∀ j (hj : j < s.size), p s[j] = true) : s.data.toList.all p = true := by
  rw [List.all_eq_true]
  intro c hc
  obtain ⟨i, hi, rfl⟩ := List.mem_iff_getElem.1 hc
  exact h i (by simpa using hi)
theorem not_all {p : UInt8 → Bool} {s : ByteArray} {j : Nat} (hj : j < s.size) (h : p s[j] = false) : s.data.toList.all p = false := by
  rw [List.all_eq_false]
  exact ⟨s[j], List.mem_iff_getElem.2 ⟨j, by simpa using hj, rfl⟩, by simp [h]⟩










theorem isPrintable_impl (s : ByteArray) (hs : s.size ≤ 9223372036854775807) (w : World) : Calls Tryd.prog 72 #[.string s] w (RetQ (.bool (printable s)) w) := by
  go_enter Tryd.func72, Tryd.ntmps72
  go_wp2
  go_loop [3] (fun i => ∃ k : Nat, k ≤ s.size ∧ i = .int .i64 k ∧ ∀ j (hj : j < s.size), j < k → okPr s[j] = true) (fun i => s.size - (intOf i).toNat)
  case atStart => exact ⟨0, Nat.zero_le _, rfl, fun j hj h => absurd h (by omega)⟩
  case round =>
    obtain ⟨k, hk, rfl, hall⟩ := hrel
    have hall' := Lib.hid hall
    clear hall
    by_cases hlt : k < s.size
    · by_cases h1 : (s[k].toNat : Int) < 32
      · have hf := Lib.hid (show printable s = false by
          unfold printable; rw [not_all hlt (by unfold okPr; simp; omega)]; rfl)
        go_wp2
        go_ret
        exact ⟨ret_bool hf.out.symm, rfl⟩
      · by_cases h2 : 126 < (s[k].toNat : Int)
        · have hf := Lib.hid (show printable s = false by
            unfold printable; rw [not_all hlt (by unfold okPr; simp; omega)]; rfl)
          go_wp2
          go_ret
          exact ⟨ret_bool hf.out.symm, rfl⟩
        · have hf := Lib.hid (show okPr s[k] = true by unfold okPr; simp; omega)
          go_wp2
          go_round
          case rel => exact ⟨k + 1, by omega, by go_num, fun j hj h => by
            by_cases e : j = k
            · subst e; exact hf.out
            · exact hall'.out j hj (by omega)⟩
          case measure => (simp [intOf] <;> omega)
    · have hf := Lib.hid (show printable s = decide ((s.size : Int) ≤ 120) by
        unfold printable; rw [all_of (fun j hj => hall'.out j hj (by omega))]; rfl)
      go_wp2
      go_ret
      exact ⟨ret_bool hf.out.symm, rfl⟩

theorem isPrintable_spec (s : ByteArray) (hs : s.size ≤ 9223372036854775807) (w : World) : Calls Tryd.prog 69 #[.string s] w (RetQ (.bool (printable s)) w) := by
  go_enter Tryd.func69, Tryd.ntmps69
  go_wp2
  go_loop [3] (fun i => ∃ k : Nat, k ≤ s.size ∧ i = .int .i64 k ∧ ∀ j (hj : j < s.size), j < k → okPr s[j] = true) (fun i => s.size - (intOf i).toNat)
  case atStart => exact ⟨0, Nat.zero_le _, rfl, fun j hj h => absurd h (by omega)⟩
  case round =>
    obtain ⟨k, hk, rfl, hall⟩ := hrel
    have hall' := Lib.hid hall
    clear hall
    by_cases hlt : k < s.size
    · by_cases h1 : (s[k].toNat : Int) < 32
      · have hf := Lib.hid (show printable s = false by
          unfold printable; rw [not_all hlt (by unfold okPr; simp; omega)]; rfl)
        go_wp2
        go_ret
        exact ⟨ret_bool hf.out.symm, rfl⟩
      · by_cases h2 : 126 < (s[k].toNat : Int)
        · have hf := Lib.hid (show printable s = false by
            unfold printable; rw [not_all hlt (by unfold okPr; simp; omega)]; rfl)
          go_wp2
          go_ret
          exact ⟨ret_bool hf.out.symm, rfl⟩
        · have hf := Lib.hid (show okPr s[k] = true by unfold okPr; simp; omega)
          go_wp2
          go_round
          case rel => exact ⟨k + 1, by omega, by go_num, fun j hj h => by
            by_cases e : j = k
            · subst e; exact hf.out
            · exact hall'.out j hj (by omega)⟩
          case measure => (simp [intOf] <;> omega)
    · have hf := Lib.hid (show printable s = decide ((s.size : Int) ≤ 120) by
        unfold printable; rw [all_of (fun j hj => hall'.out j hj (by omega))]; rfl)
      go_wp2
      go_ret
      exact ⟨ret_bool hf.out.symm, rfl⟩

theorem ilt (a b : Int) : a < b ∨ b ≤ a := by omega
def isLet (c : UInt8) : Bool := decide (97 ≤ (c.toNat : Int)) && decide ((c.toNat : Int) ≤ 122)
def isDig (c : UInt8) : Bool := decide (48 ≤ (c.toNat : Int)) && decide ((c.toNat : Int) ≤ 57)
def okWd (j : Nat) (c : UInt8) : Bool := isLet c || (decide (0 < j) && isDig c)
/-- The letters of a word: lower-case letters and digits, a letter first. -/
def shapeB (s : ByteArray) : Bool := decide (0 < s.size) && (List.range s.size).all fun j => okWd j (s.data.toList.getD j 0)
def wordB (s : ByteArray) : Bool := shapeB s && decide ((s.size : Int) ≤ 8)
theorem getD_get (s : ByteArray) (j : Nat) (h : j < s.size) : s.data.toList.getD j 0 = s[j] := by
  rw [List.getD_eq_getElem?_getD, List.getElem?_eq_getElem (by simpa using h)]
  rfl
theorem shapeB_false {s : ByteArray} {j : Nat} (hj : j < s.size) (h : okWd j s[j] = false) : shapeB s = false := by
  unfold shapeB
  rw [Bool.and_eq_false_iff]
  refine Or.inr (List.all_eq_false.2 ⟨j, List.mem_range.2 hj, ?_⟩)
  rw [getD_get s j hj, h]
  decide
theorem shapeB_true {s : ByteArray} (h : ∀ j (hj : j < s.size), okWd j s[j] = true) : shapeB s = decide (0 < (s.size : Int)) := by
  unfold shapeB
  rw [List.all_eq_true.2 (fun j hj => by rw [getD_get s j (List.mem_range.1 hj)]; exact h j _), Bool.and_true]
  simp
theorem wordB_false {s : ByteArray} {j : Nat} (hj : j < s.size) (h : okWd j s[j] = false) : wordB s = false := by
  unfold wordB
  rw [shapeB_false hj h]
  rfl
theorem wordB_true {s : ByteArray} (h : ∀ j (hj : j < s.size), okWd j s[j] = true) : wordB s = inR s.size 1 8 := by
  unfold wordB inR
  rw [shapeB_true h]
  congr 1

set_option maxHeartbeats 1000000 in
theorem isWord_impl (s : ByteArray) (hs : s.size ≤ 9223372036854775807) (w : World) : Calls Tryd.prog 98 #[.string s] w (RetQ (.bool (wordB s)) w) := by
  go_enter Tryd.func98, Tryd.ntmps98
  go_wp2
  go_loop [3] (fun i => ∃ k : Nat, k ≤ s.size ∧ i = .int .i64 k ∧ ∀ j (hj : j < s.size), j < k → okWd j s[j] = true) (fun i => s.size - (intOf i).toNat)
  case atStart => exact ⟨0, Nat.zero_le _, rfl, fun j hj h => absurd h (by omega)⟩
  case round =>
    obtain ⟨k, hk, rfl, hall⟩ := hrel
    have hall' := Lib.hid hall
    clear hall
    by_cases hlt : k < s.size
    · rcases ilt (s[k].toNat : Int) 97 with h1 | h1
      · have d1 : decide (97 ≤ (s[k].toNat : Int)) = false := by simp; omega
        by_cases hk0 : k = 0
        · have hk1 : ((k : Int) == 0) = true := by simp [hk0]
          have hk2 : okWd k s[k] = false := by unfold okWd isLet isDig; simp; omega
          clear hk0
          have hf := Lib.hid (show false = wordB s from (wordB_false hlt (hk2)).symm)
          clear hk2
          go_wp2
          all_goals (go_ret; exact ⟨ret_bool hf.out, rfl⟩)
        · have hk1 : ((k : Int) == 0) = false := by simp; omega
          rcases ilt (s[k].toNat : Int) 48 with h3 | h3
          · have d2 : decide (48 ≤ (s[k].toNat : Int)) = false := by simp; omega
            have hf := Lib.hid (show false = wordB s from (wordB_false hlt (by unfold okWd isLet isDig; simp; omega)).symm)
            go_wp2
            all_goals (go_ret; exact ⟨ret_bool hf.out, rfl⟩)
          · rcases ilt 57 (s[k].toNat : Int) with h4 | h4
            · have d2 : decide ((s[k].toNat : Int) ≤ 57) = false := by simp; omega
              have hf := Lib.hid (show false = wordB s from (wordB_false hlt (by unfold okWd isLet isDig; simp; omega)).symm)
              go_wp2
              all_goals (go_ret; exact ⟨ret_bool hf.out, rfl⟩)
            · skip
              have hf := Lib.hid (show okWd k s[k] = true from by unfold okWd isLet isDig; simp; omega)
              go_wp2
              go_round
              case rel => exact ⟨k + 1, by omega, by go_num, fun j hj h => by
                by_cases e : j = k
                · subst e; exact hf.out
                · exact hall'.out j hj (by omega)⟩
              case measure => (simp [intOf] <;> omega)
      · rcases ilt 122 (s[k].toNat : Int) with h2 | h2
        · have d1 : decide ((s[k].toNat : Int) ≤ 122) = false := by simp; omega
          by_cases hk0 : k = 0
          · have hk1 : ((k : Int) == 0) = true := by simp [hk0]
            have hk2 : okWd k s[k] = false := by unfold okWd isLet isDig; simp; omega
            clear hk0
            have hf := Lib.hid (show false = wordB s from (wordB_false hlt (hk2)).symm)
            clear hk2
            go_wp2
            all_goals (go_ret; exact ⟨ret_bool hf.out, rfl⟩)
          · have hk1 : ((k : Int) == 0) = false := by simp; omega
            rcases ilt (s[k].toNat : Int) 48 with h3 | h3
            · have d2 : decide (48 ≤ (s[k].toNat : Int)) = false := by simp; omega
              have hf := Lib.hid (show false = wordB s from (wordB_false hlt (by unfold okWd isLet isDig; simp; omega)).symm)
              go_wp2
              all_goals (go_ret; exact ⟨ret_bool hf.out, rfl⟩)
            · rcases ilt 57 (s[k].toNat : Int) with h4 | h4
              · have d2 : decide ((s[k].toNat : Int) ≤ 57) = false := by simp; omega
                have hf := Lib.hid (show false = wordB s from (wordB_false hlt (by unfold okWd isLet isDig; simp; omega)).symm)
                go_wp2
                all_goals (go_ret; exact ⟨ret_bool hf.out, rfl⟩)
              · skip
                omega
        · skip
          have hf := Lib.hid (show okWd k s[k] = true from by unfold okWd isLet isDig; simp; omega)
          go_wp2
          go_round
          case rel => exact ⟨k + 1, by omega, by go_num, fun j hj h => by
            by_cases e : j = k
            · subst e; exact hf.out
            · exact hall'.out j hj (by omega)⟩
          case measure => (simp [intOf] <;> omega)
    · have hf := Lib.hid (show inR s.size 1 8 = wordB s from (wordB_true (fun j hj => hall'.out j hj (by omega))).symm)
      go_wp2_with (go_at_call 71; refine (within_any _ _ _ _).mono ?_; rintro e w' ⟨rfl, rfl⟩)
      go_ret
      exact ⟨ret_bool hf.out, rfl⟩

set_option maxHeartbeats 1000000 in
theorem l2Shape_spec (s : ByteArray) (hs : s.size ≤ 9223372036854775807) (w : World) : Calls Tryd.prog 96 #[.string s] w (RetQ (.bool (shapeB s)) w) := by
  go_enter Tryd.func96, Tryd.ntmps96
  go_wp2
  go_loop [3] (fun i => ∃ k : Nat, k ≤ s.size ∧ i = .int .i64 k ∧ ∀ j (hj : j < s.size), j < k → okWd j s[j] = true) (fun i => s.size - (intOf i).toNat)
  case atStart => exact ⟨0, Nat.zero_le _, rfl, fun j hj h => absurd h (by omega)⟩
  case round =>
    obtain ⟨k, hk, rfl, hall⟩ := hrel
    have hall' := Lib.hid hall
    clear hall
    by_cases hlt : k < s.size
    · rcases ilt (s[k].toNat : Int) 97 with h1 | h1
      · have d1 : decide (97 ≤ (s[k].toNat : Int)) = false := by simp; omega
        by_cases hk0 : k = 0
        · have hk1 : ((k : Int) == 0) = true := by simp [hk0]
          have hk2 : okWd k s[k] = false := by unfold okWd isLet isDig; simp; omega
          clear hk0
          have hf := Lib.hid (show false = shapeB s from (shapeB_false hlt (hk2)).symm)
          clear hk2
          go_wp2
          all_goals (go_ret; exact ⟨ret_bool hf.out, rfl⟩)
        · have hk1 : ((k : Int) == 0) = false := by simp; omega
          rcases ilt (s[k].toNat : Int) 48 with h3 | h3
          · have d2 : decide (48 ≤ (s[k].toNat : Int)) = false := by simp; omega
            have hf := Lib.hid (show false = shapeB s from (shapeB_false hlt (by unfold okWd isLet isDig; simp; omega)).symm)
            go_wp2
            all_goals (go_ret; exact ⟨ret_bool hf.out, rfl⟩)
          · rcases ilt 57 (s[k].toNat : Int) with h4 | h4
            · have d2 : decide ((s[k].toNat : Int) ≤ 57) = false := by simp; omega
              have hf := Lib.hid (show false = shapeB s from (shapeB_false hlt (by unfold okWd isLet isDig; simp; omega)).symm)
              go_wp2
              all_goals (go_ret; exact ⟨ret_bool hf.out, rfl⟩)
            · skip
              have hf := Lib.hid (show okWd k s[k] = true from by unfold okWd isLet isDig; simp; omega)
              go_wp2
              go_round
              case rel => exact ⟨k + 1, by omega, by go_num, fun j hj h => by
                by_cases e : j = k
                · subst e; exact hf.out
                · exact hall'.out j hj (by omega)⟩
              case measure => (simp [intOf] <;> omega)
      · rcases ilt 122 (s[k].toNat : Int) with h2 | h2
        · have d1 : decide ((s[k].toNat : Int) ≤ 122) = false := by simp; omega
          by_cases hk0 : k = 0
          · have hk1 : ((k : Int) == 0) = true := by simp [hk0]
            have hk2 : okWd k s[k] = false := by unfold okWd isLet isDig; simp; omega
            clear hk0
            have hf := Lib.hid (show false = shapeB s from (shapeB_false hlt (hk2)).symm)
            clear hk2
            go_wp2
            all_goals (go_ret; exact ⟨ret_bool hf.out, rfl⟩)
          · have hk1 : ((k : Int) == 0) = false := by simp; omega
            rcases ilt (s[k].toNat : Int) 48 with h3 | h3
            · have d2 : decide (48 ≤ (s[k].toNat : Int)) = false := by simp; omega
              have hf := Lib.hid (show false = shapeB s from (shapeB_false hlt (by unfold okWd isLet isDig; simp; omega)).symm)
              go_wp2
              all_goals (go_ret; exact ⟨ret_bool hf.out, rfl⟩)
            · rcases ilt 57 (s[k].toNat : Int) with h4 | h4
              · have d2 : decide ((s[k].toNat : Int) ≤ 57) = false := by simp; omega
                have hf := Lib.hid (show false = shapeB s from (shapeB_false hlt (by unfold okWd isLet isDig; simp; omega)).symm)
                go_wp2
                all_goals (go_ret; exact ⟨ret_bool hf.out, rfl⟩)
              · skip
                omega
        · skip
          have hf := Lib.hid (show okWd k s[k] = true from by unfold okWd isLet isDig; simp; omega)
          go_wp2
          go_round
          case rel => exact ⟨k + 1, by omega, by go_num, fun j hj h => by
            by_cases e : j = k
            · subst e; exact hf.out
            · exact hall'.out j hj (by omega)⟩
          case measure => (simp [intOf] <;> omega)
    · have hf := Lib.hid (show decide (0 < s.size) = shapeB s from ((shapeB_true (fun j hj => hall'.out j hj (by omega))).trans (by simp)).symm)
      go_wp2
      go_ret
      exact ⟨ret_bool hf.out, rfl⟩

end Go.Proofs.YtdjcflnemnknaaaDoor
