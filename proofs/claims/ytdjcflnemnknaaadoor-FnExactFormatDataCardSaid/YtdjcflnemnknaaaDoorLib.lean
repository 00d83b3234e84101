/-
  The base of the proofs of this seat: a tree of data (D), what it means that cells of memory hold it (R), and how that is kept while memory grows. No Go text in sight.
-/
import Derived.WalkKit
import Derived.WalkSpells
import Derived.WalkLawsBesides
import Derived.ProofKit
import Derived.OpenShut
import Derived.Below
import Derived.Carry
import Derived.Outline
import Derived.Lib.Hide
import Derived.Laws.OwnMore
import Derived.Laws.MakeOwn
import Derived.Maps.AppendAt
import Derived.Deep.AppendLies
import Derived.Deep.RegionHeld3
import Derived.Deep.DeepCutAuto
import Derived.Deep.DeepFit
import Derived.Deep.QuietTactic
import Derived.Deep.Slices
import Derived.BigQuiet
namespace Go.Proofs.YtdjcflnemnknaaaDoor
open Go.RowKit
set_option linter.unusedVariables false

theorem ret_int {k : IntKind} {a b : Int} (h : a = b) : Ending.returned (.int k a) = .returned (.int k b) := by rw [h]
theorem ret_bool {a b : Bool} (h : a = b) : Ending.returned (.bool a) = .returned (.bool b) := by rw [h]

/-- The cells from an address on. -/
def At (w : World) (b o : Nat) (cs : List Value) : Prop := ∀ j u, cs[j]? = some u → w.cell? ⟨b, o + j, none⟩ = some u

theorem At.head {w : World} {b o : Nat} {c : Value} {cs : List Value} (h : At w b o (c :: cs)) : w.cell? ⟨b, o, none⟩ = some c := h 0 c rfl
theorem At.nth {w : World} {b o : Nat} {cs : List Value} (h : At w b o cs) (j : Nat) {u : Value} (hj : cs[j]? = some u) : w.cell? ⟨b, o + j, none⟩ = some u := h j u hj
theorem At.left {w : World} {b o : Nat} {c1 c2 : List Value} (h : At w b o (c1 ++ c2)) : At w b o c1 := fun j u hj => by
  refine h j u ?_
  rw [List.getElem?_append_left]
  · exact hj
  · exact (List.getElem?_eq_some_iff.1 hj).1
theorem At.right {w : World} {b o : Nat} {c1 c2 : List Value} (h : At w b o (c1 ++ c2)) : At w b (o + c1.length) c2 := fun j u hj => by
  have := h (c1.length + j) u (by rw [List.getElem?_append_right (by omega)]; simpa using hj)
  rwa [← Nat.add_assoc] at this

/-- A tree of data: a leaf is a value of one cell (a number, a string, a bool). -/
inductive D where
  | leaf (v : Value)
  | sl (l : List D)
  | agg (l : List D)

mutual
/-- The cells `cs` hold the datum, over the blocks `fp`. -/
def R (w : World) : D → List Nat → List Value → Prop
  | .leaf v, fp, cs => fp = [] ∧ cs = [v]
  | .agg l, fp, cs => Rs w l fp cs
  | .sl l, fp, cs => ∃ A cap, cs = [.slice A l.length cap] ∧ l.length ≤ cap ∧ cap ≤ maxLen ∧ ((l = [] ∧ fp = []) ∨ ∃ b o fp' cs', A = some ⟨b, o, none⟩ ∧ fp = b :: fp' ∧ b < w.heap.size ∧ Rs w l fp' cs' ∧ At w b o cs')
def Rs (w : World) : List D → List Nat → List Value → Prop
  | [], fp, cs => fp = [] ∧ cs = []
  | d :: l, fp, cs => ∃ f1 f2 c1 c2, fp = f1 ++ f2 ∧ cs = c1 ++ c2 ∧ R w d f1 c1 ∧ Rs w l f2 c2
end

mutual
/-- How many cells it takes. -/
def D.sz : D → Nat
  | .leaf _ => 1
  | .sl _ => 1
  | .agg l => D.szs l
def D.szs : List D → Nat
  | [] => 0
  | d :: l => d.sz + D.szs l
end

mutual
theorem R.len {w : World} : ∀ {d : D} {fp : List Nat} {cs : List Value}, R w d fp cs → cs.length = d.sz
  | .leaf _, _, _, h => by rw [h.2]; rfl
  | .sl _, _, _, h => by obtain ⟨A, cap, rfl, _⟩ := h; rfl
  | .agg l, _, _, h => by rw [D.sz]; exact Rs.len (l := l) (by simpa [R] using h)
theorem Rs.len {w : World} : ∀ {l : List D} {fp : List Nat} {cs : List Value}, Rs w l fp cs → cs.length = D.szs l
  | [], _, _, h => by rw [h.2]; rfl
  | d :: l, _, _, h => by
    obtain ⟨f1, f2, c1, c2, rfl, rfl, h1, h2⟩ := h
    rw [List.length_append, h1.len, Rs.len h2, D.szs]
end

mutual
theorem R.same {w w' : World} : ∀ {d : D} {fp : List Nat} {cs : List Value}, R w d fp cs → (∀ b ∈ fp, w'.heap[b]? = w.heap[b]?) → w.heap.size ≤ w'.heap.size → R w' d fp cs
  | .leaf _, _, _, h, _, _ => h
  | .agg l, fp, cs, h, hs, hz => by
    rw [R] at h ⊢
    exact Rs.same h hs hz
  | .sl l, fp, cs, h, hs, hz => by
    rw [R] at h ⊢
    obtain ⟨A, cap, rfl, h1, h2, h3⟩ := h
    refine ⟨A, cap, rfl, h1, h2, ?_⟩
    rcases h3 with h3 | ⟨b, o, fp', cs', rfl, rfl, hb, hr, ha⟩
    · exact Or.inl h3
    · refine Or.inr ⟨b, o, fp', cs', rfl, rfl, by omega, Rs.same hr (fun x hx => hs x (by simp [hx])) hz, fun j u hj => ?_⟩
      rw [World.cell?_of_block (w := w) (hs b (by simp))]
      exact ha j u hj
theorem Rs.same {w w' : World} : ∀ {l : List D} {fp : List Nat} {cs : List Value}, Rs w l fp cs → (∀ b ∈ fp, w'.heap[b]? = w.heap[b]?) → w.heap.size ≤ w'.heap.size → Rs w' l fp cs
  | [], _, _, h, _, _ => h
  | d :: l, _, _, h, hs, hz => by
    obtain ⟨f1, f2, c1, c2, rfl, rfl, h1, h2⟩ := h
    exact ⟨f1, f2, c1, c2, rfl, rfl, h1.same (fun b hb => hs b (by simp [hb])) hz, Rs.same h2 (fun b hb => hs b (by simp [hb])) hz⟩
end

mutual
theorem R.lt {w : World} : ∀ {d : D} {fp : List Nat} {cs : List Value}, R w d fp cs → ∀ b ∈ fp, b < w.heap.size
  | .leaf _, _, _, h, b, hb => by rw [h.1] at hb; simp at hb
  | .agg l, fp, cs, h, b, hb => by
    rw [R] at h
    exact Rs.lt h b hb
  | .sl l, fp, cs, h, b, hb => by
    rw [R] at h
    obtain ⟨A, cap, rfl, h1, h2, h3⟩ := h
    rcases h3 with h3 | ⟨b', o, fp', cs', rfl, rfl, hb', hr, ha⟩
    · rw [h3.2] at hb; simp at hb
    · rcases List.mem_cons.1 hb with rfl | hb
      · exact hb'
      · exact Rs.lt hr b hb
theorem Rs.lt {w : World} : ∀ {l : List D} {fp : List Nat} {cs : List Value}, Rs w l fp cs → ∀ b ∈ fp, b < w.heap.size
  | [], _, _, h, b, hb => by rw [h.1] at hb; simp at hb
  | d :: l, _, _, h, b, hb => by
    obtain ⟨f1, f2, c1, c2, rfl, rfl, h1, h2⟩ := h
    rcases List.mem_append.1 hb with hb | hb
    · exact h1.lt b hb
    · exact Rs.lt h2 b hb
end

theorem R.below {w w' : World} {d : D} {fp : List Nat} {cs : List Value} (h : R w d fp cs) (hb : Below w.heap.size w w') : R w' d fp cs :=
  h.same (fun b hm => hb.block b (h.lt b hm)) hb.size
theorem Rs.below {w w' : World} {l : List D} {fp : List Nat} {cs : List Value} (h : Rs w l fp cs) (hb : Below w.heap.size w w') : Rs w' l fp cs :=
  h.same (fun b hm => hb.block b (h.lt b hm)) hb.size
theorem R.grown {w w' : World} {row : Option Nat} {d : D} {fp : List Nat} {cs : List Value} (h : R w d fp cs) (hg : w.grownBy w' row) (hn : ∀ g, row = some g → g ∉ fp) : R w' d fp cs :=
  h.same (fun b hm => hg.block b (h.lt b hm) (fun e => hn b e.symm hm)) hg.size
theorem Rs.grown {w w' : World} {row : Option Nat} {l : List D} {fp : List Nat} {cs : List Value} (h : Rs w l fp cs) (hg : w.grownBy w' row) (hn : ∀ g, row = some g → g ∉ fp) : Rs w' l fp cs :=
  h.same (fun b hm => hg.block b (h.lt b hm) (fun e => hn b e.symm hm)) hg.size
theorem R.setCell {w : World} {d : D} {fp : List Nat} {cs : List Value} (h : R w d fp cs) {p : Addr} (hp : p.block ∉ fp) (u : Value) : R (w.setCell p u) d fp cs :=
  h.same (fun b hm => Below.heap_setCell _ _ _ _ (fun e => hp (e ▸ hm))) (by simp [World.setCell])
theorem Rs.setCell {w : World} {l : List D} {fp : List Nat} {cs : List Value} (h : Rs w l fp cs) {p : Addr} (hp : p.block ∉ fp) (u : Value) : Rs (w.setCell p u) l fp cs :=
  h.same (fun b hm => Below.heap_setCell _ _ _ _ (fun e => hp (e ▸ hm))) (by simp [World.setCell])

/-- Two lists of data, one behind the other. -/
theorem Rs.append {w : World} {l2 : List D} {f2 : List Nat} {c2 : List Value} (h2 : Rs w l2 f2 c2) : ∀ {l1 : List D} {f1 : List Nat} {c1 : List Value}, Rs w l1 f1 c1 → Rs w (l1 ++ l2) (f1 ++ f2) (c1 ++ c2)
  | [], _, _, h => by rw [h.1, h.2]; exact h2
  | d :: l, _, _, h => by
    obtain ⟨g1, g2, e1, e2, rfl, rfl, h1, h3⟩ := h
    exact ⟨g1, g2 ++ f2, e1, e2 ++ c2, by simp, by simp, h1, Rs.append h2 h3⟩
theorem Rs.split {w : World} {l2 : List D} : ∀ {l1 : List D} {f : List Nat} {c : List Value}, Rs w (l1 ++ l2) f c → ∃ f1 f2 c1 c2, f = f1 ++ f2 ∧ c = c1 ++ c2 ∧ Rs w l1 f1 c1 ∧ Rs w l2 f2 c2
  | [], f, c, h => ⟨[], f, [], c, rfl, rfl, ⟨rfl, rfl⟩, h⟩
  | d :: l, _, _, h => by
    obtain ⟨g1, g2, e1, e2, rfl, rfl, h1, h3⟩ := h
    obtain ⟨f1, f2, c1, c2, rfl, rfl, h4, h5⟩ := Rs.split (l1 := l) h3
    exact ⟨g1 ++ f1, f2, e1 ++ c1, c2, by simp, by simp, ⟨g1, f1, e1, c1, rfl, rfl, h1, h4⟩, h5⟩
theorem Rs.one {w : World} {d : D} {f : List Nat} {c : List Value} (h : R w d f c) : Rs w [d] f c := ⟨f, [], c, [], by simp, by simp, h, rfl, rfl⟩
theorem Rs.of_one {w : World} {d : D} {f : List Nat} {c : List Value} (h : Rs w [d] f c) : R w d f c := by
  obtain ⟨f1, f2, c1, c2, rfl, rfl, h1, h2, h3⟩ := h
  simpa [h2, h3] using h1

theorem szs_const {s : Nat} : ∀ (l : List D), (∀ d ∈ l, d.sz = s) → D.szs l = l.length * s
  | [], _ => by simp [D.szs]
  | d :: l, h => by
    rw [D.szs, szs_const l (fun x hx => h x (by simp [hx])), h d (by simp), List.length_cons, Nat.add_mul]
    omega

/-- Element number i of a list whose elements take s cells each. -/
theorem Rs.get {w : World} {s : Nat} {l : List D} {fp : List Nat} {cs : List Value} (h : Rs w l fp cs) (hs : ∀ d ∈ l, d.sz = s) {i : Nat} {d : D} (hd : l[i]? = some d) :
    ∃ fi ci, R w d fi ci ∧ (∀ x ∈ fi, x ∈ fp) ∧ ∀ j u, ci[j]? = some u → cs[i * s + j]? = some u := by
  obtain ⟨hi, hd'⟩ := List.getElem?_eq_some_iff.1 hd
  have e : l = l.take i ++ (d :: l.drop (i + 1)) := by rw [← hd', ← List.drop_eq_getElem_cons, List.take_append_drop]
  rw [e] at h
  obtain ⟨f1, f2, c1, c2, rfl, rfl, h1, h2⟩ := Rs.split h
  obtain ⟨g1, g2, e1, e2, rfl, rfl, h3, h4⟩ := h2
  refine ⟨g1, e1, h3, fun x hx => by simp [hx], fun j u hj => ?_⟩
  have hl : c1.length = i * s := by
    rw [h1.len, szs_const (s := s) _ (fun x hx => hs x (List.mem_of_mem_take hx)), List.length_take, Nat.min_eq_left (by omega)]
  rw [List.getElem?_append_right (by omega), hl, show i * s + j - i * s = j by omega, List.getElem?_append_left]
  · exact hj
  · exact (List.getElem?_eq_some_iff.1 hj).1

/-- A slice's value that reads as a list of data: nil and empty slices let in. `A`, `cap` are letters: the address is asked for inside a round alone. -/
def Sl (w : World) (l : List D) (fp : List Nat) (v : Value) : Prop := R w (.sl l) fp [v]

theorem Sl.form {w : World} {l : List D} {fp : List Nat} {v : Value} (h : Sl w l fp v) : ∃ A cap, v = .slice A l.length cap ∧ l.length ≤ cap ∧ cap ≤ maxLen := by
  unfold Sl at h
  rw [R] at h
  obtain ⟨A, cap, h1, h2, h3, _⟩ := h
  simp only [List.cons.injEq, and_true] at h1
  exact ⟨A, cap, h1, h2, h3⟩

/-- Inside a round: element k, its cells, and where they lie. -/
theorem Sl.elem {w : World} {s : Nat} {l : List D} {fp : List Nat} {A : Option Addr} {n cap : Nat} (h : Sl w l fp (.slice A n cap)) (hs : ∀ d ∈ l, d.sz = s) {k : Nat} {d : D} (hd : l[k]? = some d) :
    ∃ b o fi ci, A = some ⟨b, o, none⟩ ∧ b < w.heap.size ∧ b ∈ fp ∧ R w d fi ci ∧ (∀ x ∈ fi, x ∈ fp) ∧ At w b (o + k * s) ci := by
  unfold Sl at h
  rw [R] at h
  obtain ⟨A', cap', h1, _, _, h3⟩ := h
  simp only [List.cons.injEq, and_true, Value.slice.injEq] at h1
  obtain ⟨rfl, rfl, rfl⟩ := h1
  rcases h3 with ⟨rfl, _⟩ | ⟨b, o, fp', cs', rfl, rfl, hb, hr, ha⟩
  · simp at hd
  · obtain ⟨fi, ci, h4, h5, h6⟩ := hr.get hs hd
    exact ⟨b, o, fi, ci, rfl, hb, by simp, h4, fun x hx => by simp [h5 x hx], fun j u hj => by
      have := ha _ u (h6 j u hj)
      rwa [← Nat.add_assoc] at this⟩

theorem Sl.below {w w' : World} {l : List D} {fp : List Nat} {v : Value} (h : Sl w l fp v) (hb : Below w.heap.size w w') : Sl w' l fp v := R.below h hb

/-! ### Owned memory -/
/-- The blocks are fresh from `base` on, each is there once, and none is frozen. -/
def Free (w : World) (base : Nat) (fp : List Nat) : Prop := fp.Nodup ∧ ∀ b ∈ fp, base ≤ b ∧ ∀ o, w.frozen? ⟨b, o, none⟩ = false

theorem Free.nil {w : World} {base : Nat} : Free w base [] := ⟨List.nodup_nil, fun _ h => by simp at h⟩
theorem Free.same {w w' : World} {base : Nat} {fp : List Nat} (h : Free w base fp) (hs : ∀ b ∈ fp, w'.heap[b]? = w.heap[b]?) : Free w' base fp :=
  ⟨h.1, fun b hb => ⟨(h.2 b hb).1, fun o => by rw [World.frozen?_of_block (w := w) (hs b hb)]; exact (h.2 b hb).2 o⟩⟩
theorem Free.mono {w : World} {base base' : Nat} {fp : List Nat} (h : Free w base fp) (hb : base' ≤ base) : Free w base' fp :=
  ⟨h.1, fun b hm => ⟨Nat.le_trans hb (h.2 b hm).1, (h.2 b hm).2⟩⟩

/-- What an append-loop owns, with its elements read: as a slice that reads as a list. -/
theorem Sl.of_own {w : World} {base : Nat} {e : TypeId} {s : Nat} {v : Value} {l : List D} {fp : List Nat} {cs : List Value} (h : w.ownsRow base e s v l.length cs) (hr : Rs w l fp cs) :
    Sl w l (v.ownBlock.toList ++ fp) v := by
  unfold Sl
  rw [R]
  obtain ⟨h1, h2⟩ := h
  rcases h2 with ⟨rfl, h3⟩ | ⟨g, cap, cur, rfl, hg, hh, hn, hm, hsz, ht⟩
  · have hl : l = [] := List.eq_nil_of_length_eq_zero h3
    subst hl
    exact ⟨none, 0, by simp, by simp, by simp, Or.inl ⟨rfl, by simpa [Value.ownBlock] using hr.1⟩⟩
  · refine ⟨some ⟨g, 0, none⟩, cap, rfl, hn, hm, Or.inr ⟨g, 0, fp, cs, rfl, by simp [Value.ownBlock], ?_, hr, fun j u hj => ?_⟩⟩
    · rcases Nat.lt_or_ge g w.heap.size with hlt | hge
      · exact hlt
      · rw [Array.getElem?_eq_none hge] at hh; cases hh
    · subst ht
      simp only [Nat.zero_add, World.cell?, hh]
      rw [List.getElem?_take] at hj
      split at hj
      · simpa using hj
      · cases hj
theorem Free.of_own {w : World} {base : Nat} {e : TypeId} {s n : Nat} {v : Value} {fp : List Nat} {cs : List Value} (h : w.ownsRow base e s v n cs) (hf : Free w base fp) (hn : ∀ g, v.ownBlock = some g → g ∉ fp) :
    Free w base (v.ownBlock.toList ++ fp) := by
  obtain ⟨h1, h2⟩ := h
  rcases h2 with ⟨rfl, h3⟩ | ⟨g, cap, cur, rfl, hg, hh, _⟩
  · simpa [Value.ownBlock] using hf
  · refine ⟨by simp only [Value.ownBlock, Option.toList, List.singleton_append, List.nodup_cons]; exact ⟨hn g rfl, hf.1⟩, fun b hb => ?_⟩
    simp only [Value.ownBlock, Option.toList, List.singleton_append, List.mem_cons] at hb
    rcases hb with rfl | hb
    · refine ⟨hg, fun o => ?_⟩
      simp only [World.frozen?, hh]
      simp
    · exact hf.2 b hb

/-! ### Weights; what the reading of arguments gives -/
def leafWf : Value → Prop
  | .int k n => (Lit.int k n).wf = true
  | .string s => s.size ≤ maxLen
  | _ => True
def leafWt : Value → Nat
  | .string s => s.size
  | _ => 0
mutual
def D.wf : D → Prop
  | .leaf v => leafWf v
  | .sl l => D.wfs l
  | .agg l => D.wfs l
def D.wfs : List D → Prop
  | [] => True
  | d :: l => d.wf ∧ D.wfs l
end
mutual
def D.wt : D → Nat
  | .leaf v => leafWt v
  | .sl l => l.length + D.wts l
  | .agg l => D.wts l
def D.wts : List D → Nat
  | [] => 0
  | d :: l => d.wt + D.wts l
end
theorem D.wfs_get : ∀ {l : List D}, D.wfs l → ∀ {d : D}, d ∈ l → d.wf
  | [], _, _, h => by simp at h
  | x :: l, hw, d, h => by
    rcases List.mem_cons.1 h with rfl | h
    · exact hw.1
    · exact D.wfs_get hw.2 h
theorem D.wts_drop (l : List D) (k : Nat) (hk : k < l.length) : D.wts (l.drop k) = (l[k]).wt + D.wts (l.drop (k + 1)) := by
  rw [List.drop_eq_getElem_cons hk, D.wts]

/-- What is left of a budget: the weight is taken off, or -1. -/
def SzRel (left : Int) (k : Nat) (r : Int) : Prop := (left < k ∧ r = -1) ∨ ((k : Int) ≤ left ∧ r = left - k)
def SzPost (left : Int) (k : Nat) (w : World) (e : Ending) (w' : World) : Prop := ∃ r : Int, e = .returned (.int .i64 r) ∧ SzRel left k r ∧ -1 ≤ r ∧ r ≤ left ∧ Below w.heap.size w w'
def SzSaid (P : Program) (f : Nat) (d : D) : Prop := ∀ (w : World) (fp : List Nat) (cs : List Value) (left : Int), R w d fp cs → d.wf → 0 ≤ left → left ≤ 1048576 → Calls P f #[.agg cs.toArray, .int .i64 left] w (SzPost left d.wt w)
def SzsSaid (P : Program) (f : Nat) (l : List D) : Prop := ∀ (w : World) (fp : List Nat) (v : Value) (left : Int), Sl w l fp v → D.wfs l → 0 ≤ left → left ≤ 1048576 → Calls P f #[v, .int .i64 left] w (SzPost left (l.length + D.wts l) w)

theorem SzRel.step {a b : Int} {j k : Nat} (h : SzRel a j b) {c : Int} (hb : 0 ≤ b) (h' : SzRel b k c) : SzRel a (j + k) c := by
  unfold SzRel at *
  omega
theorem SzRel.stop {a b : Int} {j : Nat} (h : SzRel a j b) (hb : b < 0) (k : Nat) : SzRel a (j + k) (-1) := by
  unfold SzRel at *
  omega
theorem SzRel.sub {a : Int} {k : Nat} (h : (k : Int) ≤ a) : SzRel a k (a - k) := by
  unfold SzRel
  omega
theorem SzRel.out {a : Int} {k : Nat} (h : a < k) : SzRel a k (-1) := by
  unfold SzRel
  omega
theorem SzRel.le {a b : Int} {j : Nat} (h : SzRel a j b) (hb : 0 ≤ b) : (j : Int) + b = a := by
  unfold SzRel at h
  omega

/-- Old cells, old marks, as before. -/
theorem bcell {B : Nat} {W w1 : World} (hb : Below B W w1) : (∀ b o, b < B → w1.cell? ⟨b, o, none⟩ = W.cell? ⟨b, o, none⟩) ∧ (∀ b o, b < B → w1.frozen? ⟨b, o, none⟩ = W.frozen? ⟨b, o, none⟩) :=
  ⟨fun b o h => hb.cell (p := ⟨b, o, none⟩) h, fun b o h => hb.frozen (p := ⟨b, o, none⟩) h⟩

theorem Sl.formT {α : Type} {f : α → D} {w : World} {l : List α} {fp : List Nat} {v : Value} (h : Sl w (l.map f) fp v) : ∃ A cap, v = .slice A l.length cap ∧ l.length ≤ cap ∧ cap ≤ maxLen := by
  obtain ⟨A, cap, h1, h2, h3⟩ := h.form
  rw [List.length_map] at h1 h2
  exact ⟨A, cap, h1, h2, h3⟩

/-! ### Copies: memory that is fresh -/
def ToPost (d : D) (w : World) (e : Ending) (w' : World) : Prop := ∃ fp cs, e = .returned (.agg cs.toArray) ∧ R w' d fp cs ∧ Free w' w.heap.size fp ∧ Below w.heap.size w w'
def TosPost (l : List D) (w : World) (e : Ending) (w' : World) : Prop := ∃ fp v, e = .returned v ∧ Sl w' l fp v ∧ Free w' w.heap.size fp ∧ Below w.heap.size w w'
def ToSaid (P : Program) (f : Nat) (d : D) : Prop := ∀ (w : World) (fp : List Nat) (cs : List Value), R w d fp cs → d.wt ≤ 1048576 → Calls P f #[.agg cs.toArray] w (ToPost d w)
def TosSaid (P : Program) (f : Nat) (l : List D) : Prop := ∀ (w : World) (fp : List Nat) (v : Value), Sl w l fp v → l.length + D.wts l ≤ 1048576 → Calls P f #[v] w (TosPost l w)

theorem D.wts_mem : ∀ {l : List D} {d : D}, d ∈ l → d.wt ≤ D.wts l
  | [], _, h => by simp at h
  | x :: l, d, h => by
    rcases List.mem_cons.1 h with rfl | h
    · rw [D.wts]; omega
    · have := D.wts_mem h
      rw [D.wts]; omega

/-- Cells set one behind the other. -/
def sets : List Value → Nat → List Value → List Value
  | xs, _, [] => xs
  | xs, i, c :: cs => sets (xs.set i c) (i + 1) cs
def setCells (w : World) (g i : Nat) (cs : List Value) : World :=
  match cs with
  | [] => w
  | c :: cs => setCells (w.setCell ⟨g, i, none⟩ c) g (i + 1) cs
theorem sets_length : ∀ (cs xs : List Value) (i : Nat), (sets xs i cs).length = xs.length
  | [], _, _ => rfl
  | c :: cs, xs, i => by rw [sets, sets_length cs, List.length_set]
theorem sets_take : ∀ (cs xs : List Value) (i : Nat), i + cs.length ≤ xs.length → (sets xs i cs).take (i + cs.length) = xs.take i ++ cs
  | [], xs, i, _ => by simp [sets]
  | c :: cs, xs, i, h => by
    rw [List.length_cons] at h
    rw [sets, List.length_cons, show i + (cs.length + 1) = (i + 1) + cs.length by omega, sets_take cs _ _ (by rw [List.length_set]; omega)]
    have : (xs.set i c).take (i + 1) = xs.take i ++ [c] := by
      rw [List.take_succ_eq_append_getElem (by rw [List.length_set]; omega), List.take_set_of_le (by omega), List.getElem_set_self]
    rw [this]; simp
/-- A block that is a row of cells, whole and not frozen. -/
def Row (w : World) (g : Nat) (e : TypeId) (xs : List Value) : Prop := w.heap[g]? = some (.cells xs.toArray e (0, 0))
theorem Row.lt {w : World} {g : Nat} {e : TypeId} {xs : List Value} (h : Row w g e xs) : g < w.heap.size := by
  rcases Nat.lt_or_ge g w.heap.size with hlt | hge
  · exact hlt
  · unfold Row at h; rw [Array.getElem?_eq_none hge] at h; cases h
theorem Row.cell {w : World} {g : Nat} {e : TypeId} {xs : List Value} (h : Row w g e xs) (i : Nat) : w.cell? ⟨g, i, none⟩ = xs[i]? := by
  unfold Row at h
  simp [World.cell?, h]
theorem Row.at_ {w : World} {g : Nat} {e : TypeId} {xs : List Value} (h : Row w g e xs) {i : Nat} (hi : i < xs.length) : w.cell? ⟨g, i, none⟩ = some xs[i] := by
  rw [h.cell, List.getElem?_eq_getElem hi]
theorem Row.frozen {w : World} {g : Nat} {e : TypeId} {xs : List Value} (h : Row w g e xs) (i : Nat) : w.frozen? ⟨g, i, none⟩ = false := by
  unfold Row at h
  simp [World.frozen?, h]
theorem Row.set {w : World} {g : Nat} {e : TypeId} {xs : List Value} (h : Row w g e xs) (i : Nat) (u : Value) : Row (w.setCell ⟨g, i, none⟩ u) g e (xs.set i u) := by
  unfold Row at h ⊢
  simp [World.setCell, Array.getElem?_modify, h]
theorem Row.sets {g : Nat} {e : TypeId} : ∀ (cs : List Value) {w : World} {xs : List Value} (_ : Row w g e xs) (i : Nat), Row (setCells w g i cs) g e (sets xs i cs)
  | [], _, _, h, _ => by rw [setCells]; exact h
  | c :: cs, _, _, h, i => by rw [setCells, Go.Proofs.YtdjcflnemnknaaaDoor.sets]; exact Row.sets cs (h.set i c) (i + 1)
theorem Row.same {w w' : World} {g : Nat} {e : TypeId} {xs : List Value} (h : Row w g e xs) (hs : w'.heap[g]? = w.heap[g]?) : Row w' g e xs := hs.trans h
theorem Row.below {w w' : World} {g : Nat} {e : TypeId} {xs : List Value} (h : Row w g e xs) (hb : Below w.heap.size w w') : Row w' g e xs := (hb.block g h.lt).trans h
theorem Row.new (w : World) (e : TypeId) (cs : Array Value) : Row (w.alloc (.cells cs e)) w.heap.size e cs.toList := by
  unfold Row
  exact heap_alloc_new w _
theorem setCells_far {g k : Nat} (hk : k ≠ g) : ∀ (cs : List Value) (w : World) (i : Nat), (setCells w g i cs).heap[k]? = w.heap[k]?
  | [], _, _ => by rw [setCells]
  | c :: cs, w, i => by rw [setCells, setCells_far hk cs]; exact Below.heap_setCell _ _ _ _ hk
theorem setCells_size {g : Nat} : ∀ (cs : List Value) (w : World) (i : Nat), (setCells w g i cs).heap.size = w.heap.size
  | [], _, _ => by rw [setCells]
  | c :: cs, w, i => by rw [setCells, setCells_size cs]; simp [World.setCell]
theorem setCells_below {B g : Nat} (hg : B ≤ g) {a : World} : ∀ (cs : List Value) {w : World} (_ : Below B a w) (i : Nat), Below B a (setCells w g i cs)
  | [], _, h, _ => by rw [setCells]; exact h
  | c :: cs, _, h, i => by rw [setCells]; exact setCells_below hg cs (h.setCell (p := ⟨g, i, none⟩) hg c) (i + 1)
/-- A whole row that holds a list of data, as a slice. -/
theorem Sl.of_row {w : World} {g : Nat} {e : TypeId} {xs : List Value} {l : List D} {fp : List Nat} {n : Nat} (h : Row w g e xs) (hr : Rs w l fp xs) (hn : l.length = n) (hm : n ≤ maxLen) : Sl w l (g :: fp) (.slice (some ⟨g, 0, none⟩) n n) := by
  subst hn
  unfold Sl
  rw [R]
  exact ⟨_, _, rfl, Nat.le_refl _, hm, Or.inr ⟨g, 0, fp, xs, rfl, rfl, h.lt, hr, fun j u hj => by rw [Nat.zero_add, h.cell, hj]⟩⟩
theorem Free.cons_row {w : World} {base g : Nat} {e : TypeId} {xs : List Value} {fp : List Nat} (h : Row w g e xs) (hg : base ≤ g) (hf : Free w (g + 1) fp) : Free w base (g :: fp) := by
  refine ⟨List.nodup_cons.2 ⟨fun hm => by have := (hf.2 g hm).1; omega, hf.1⟩, fun b hb => ?_⟩
  rcases List.mem_cons.1 hb with rfl | hb
  · exact ⟨hg, h.frozen⟩
  · exact ⟨by have := (hf.2 b hb).1; omega, (hf.2 b hb).2⟩
theorem Free.append {w : World} {base mid : Nat} {f1 f2 : List Nat} (h1 : Free w base f1) (hm : ∀ b ∈ f1, b < mid) (h2 : Free w mid f2) (hb : base ≤ mid) : Free w base (f1 ++ f2) := by
  refine ⟨List.nodup_append.2 ⟨h1.1, h2.1, fun a ha b hb' e => ?_⟩, fun b hb' => ?_⟩
  · have := hm a ha; have := (h2.2 b hb').1; omega
  · rcases List.mem_append.1 hb' with h | h
    · exact h1.2 b h
    · exact ⟨Nat.le_trans hb (h2.2 b h).1, (h2.2 b h).2⟩
theorem Free.below {w w' : World} {base : Nat} {fp : List Nat} (h : Free w base fp) (hl : ∀ b ∈ fp, b < w.heap.size) (hb : Below w.heap.size w w') : Free w' base fp := h.same fun b hm => hb.block b (hl b hm)
theorem Free.setCell {w : World} {base : Nat} {fp : List Nat} (h : Free w base fp) {p : Addr} (hp : p.block ∉ fp) (u : Value) : Free (w.setCell p u) base fp :=
  h.same fun b hm => Below.heap_setCell _ _ _ _ (fun e => hp (e ▸ hm))
theorem R.setCells {w : World} {d : D} {fp : List Nat} {cs : List Value} (h : R w d fp cs) {g : Nat} (hp : g ∉ fp) (i : Nat) (us : List Value) : R (setCells w g i us) d fp cs :=
  h.same (fun b hm => setCells_far (fun e : b = g => hp (e ▸ hm)) _ _ _) (by rw [setCells_size]; exact Nat.le_refl _)
theorem Rs.setCells {w : World} {d : List D} {fp : List Nat} {cs : List Value} (h : Rs w d fp cs) {g : Nat} (hp : g ∉ fp) (i : Nat) (us : List Value) : Rs (setCells w g i us) d fp cs :=
  h.same (fun b hm => setCells_far (fun e : b = g => hp (e ▸ hm)) _ _ _) (by rw [setCells_size]; exact Nat.le_refl _)
theorem Free.setCells {w : World} {base : Nat} {fp : List Nat} (h : Free w base fp) {g : Nat} (hp : g ∉ fp) (i : Nat) (us : List Value) : Free (setCells w g i us) base fp :=
  h.same fun b hm => setCells_far (fun e : b = g => hp (e ▸ hm)) _ _ _

/-! ### Kept: all as it was but for some blocks of the call's own -/
structure Kept (lo hi : Nat) (w w' : World) : Prop where
  os : w'.os = w.os
  tape : w'.tape = w.tape
  output : w'.output = w.output
  size : w.heap.size ≤ w'.heap.size
  block : ∀ k, k < w.heap.size → (k < lo ∨ hi ≤ k) → w'.heap[k]? = w.heap[k]?
theorem Kept.refl (lo hi : Nat) (w : World) : Kept lo hi w w := ⟨rfl, rfl, rfl, Nat.le_refl _, fun _ _ _ => rfl⟩
theorem Kept.trans {lo hi : Nat} {a b c : World} (h : Kept lo hi a b) (k : Kept lo hi b c) : Kept lo hi a c :=
  ⟨k.os.trans h.os, k.tape.trans h.tape, k.output.trans h.output, Nat.le_trans h.size k.size, fun i hi' ho => (k.block i (Nat.lt_of_lt_of_le hi' h.size) ho).trans (h.block i hi' ho)⟩
theorem Kept.below {lo hi : Nat} {a b c : World} (h : Kept lo hi a b) (k : Below b.heap.size b c) : Kept lo hi a c :=
  h.trans ⟨k.os, k.tape, k.output, k.size, fun i hi' _ => k.block i hi'⟩
theorem Kept.setCell {lo hi : Nat} {a b : World} (h : Kept lo hi a b) {p : Addr} (h1 : lo ≤ p.block) (h2 : p.block < hi) (u : Value) : Kept lo hi a (b.setCell p u) :=
  h.trans ⟨rfl, rfl, rfl, by simp [World.setCell], fun i hi' ho => Below.heap_setCell _ _ _ _ (by omega)⟩
theorem Kept.alloc {lo hi : Nat} {a b : World} (h : Kept lo hi a b) (o : Obj) : Kept lo hi a (b.alloc o) :=
  h.trans ⟨rfl, rfl, rfl, by simp, fun i hi' _ => Below.heap_alloc _ _ _ hi'⟩
theorem Kept.drew {lo hi : Nat} {a b : World} (h : Kept lo hi a b) : Kept lo hi a b.drew := h.trans ⟨rfl, rfl, rfl, Nat.le_refl _, fun _ _ _ => rfl⟩
theorem Kept.toBelow {lo hi B : Nat} {a b c : World} (h : Below B a b) (k : Kept lo hi b c) (hB : B ≤ lo) (hs : B ≤ b.heap.size) : Below B a c :=
  h.trans ⟨k.os, k.tape, k.output, k.size, fun i hi' => k.block i (by omega) (by omega)⟩
theorem R.kept {lo hi : Nat} {w w' : World} {d : D} {fp : List Nat} {cs : List Value} (h : R w d fp cs) (hk : Kept lo hi w w') (ho : ∀ b ∈ fp, b < lo ∨ hi ≤ b) : R w' d fp cs :=
  h.same (fun b hm => hk.block b (h.lt b hm) (ho b hm)) hk.size
theorem Sl.kept {lo hi : Nat} {w w' : World} {l : List D} {fp : List Nat} {v : Value} (h : Sl w l fp v) (hk : Kept lo hi w w') (ho : ∀ b ∈ fp, b < lo ∨ hi ≤ b) : Sl w' l fp v := R.kept h hk ho
theorem Free.kept {lo hi base : Nat} {w w' : World} {fp : List Nat} (h : Free w base fp) (hl : ∀ b ∈ fp, b < w.heap.size) (hk : Kept lo hi w w') (ho : ∀ b ∈ fp, b < lo ∨ hi ≤ b) : Free w' base fp :=
  h.same fun b hm => hk.block b (hl b hm) (ho b hm)
theorem Free.past {base hi lo : Nat} {w : World} {fp : List Nat} (h : Free w base fp) (hb : hi ≤ base) : ∀ b ∈ fp, b < lo ∨ hi ≤ b := fun b hm => Or.inr (Nat.le_trans hb (h.2 b hm).1)
theorem Row.far {w : World} {g : Nat} {e : TypeId} {xs : List Value} (h : Row w g e xs) {p : Addr} (hp : g ≠ p.block) (u : Value) : Row (w.setCell p u) g e xs := (Below.heap_setCell _ _ _ _ hp).trans h
theorem rows3 {w w1 : World} {a b c : Array Value} {ta tb tc : TypeId} (h : Below (((w.alloc (.cells a ta)).alloc (.cells b tb)).alloc (.cells c tc)).heap.size (((w.alloc (.cells a ta)).alloc (.cells b tb)).alloc (.cells c tc)) w1) :
    Row w1 w.heap.size ta a.toList ∧ Row w1 (w.heap.size + 1) tb b.toList ∧ Row w1 (w.heap.size + 2) tc c.toList ∧ w.heap.size + 3 ≤ w1.heap.size ∧ Below w.heap.size w w1 := by
  have e1 : (w.alloc (.cells a ta)).heap.size = w.heap.size + 1 := by simp
  have e2 : ((w.alloc (.cells a ta)).alloc (.cells b tb)).heap.size = w.heap.size + 2 := by simp
  have e3 : (((w.alloc (.cells a ta)).alloc (.cells b tb)).alloc (.cells c tc)).heap.size = w.heap.size + 3 := by simp
  have r0 := Row.new w ta a
  have r1 := Row.new (w.alloc (.cells a ta)) tb b
  have r2 := Row.new ((w.alloc (.cells a ta)).alloc (.cells b tb)) tc c
  rw [e1] at r1
  rw [e2] at r2
  refine ⟨?_, ?_, r2.below h, by have := h.size; omega, ?_⟩
  · exact Row.below (Row.same (Row.same r0 (Below.heap_alloc _ _ _ (by omega))) (Below.heap_alloc _ _ _ (by omega))) h
  · exact Row.below (Row.same r1 (Below.heap_alloc _ _ _ (by omega))) h
  · exact ((((Below.refl _ _).alloc (Nat.le_refl _) _).alloc (by omega) _).alloc (by omega) _).trans (h.mono (by omega))

/-- The end of a call that returns a struct: all that is read stands in world b already; behind it only the call's own blocks were written. -/
theorem ToPost.fin {lo hi : Nat} {d : D} {w b c : World} {fp : List Nat} {cs : List Value} (hK : Kept lo hi b c) (hr : R b d fp cs) (hf : Free b w.heap.size fp) (ho : ∀ x ∈ fp, x < lo ∨ hi ≤ x) (hb : Below w.heap.size w b) (hlo : w.heap.size ≤ lo) :
    ToPost d w (.returned (.agg cs.toArray)) c :=
  ⟨fp, cs, rfl, hr.kept hK ho, hf.kept hr.lt hK ho, Kept.toBelow hb hK hlo hb.size⟩
theorem past_append {lo hi : Nat} {f g : List Nat} (h : ∀ x ∈ f, x < lo ∨ hi ≤ x) (k : ∀ x ∈ g, x < lo ∨ hi ≤ x) : ∀ x ∈ f ++ g, x < lo ∨ hi ≤ x := fun x hx => by
  rcases List.mem_append.1 hx with h' | h'
  · exact h x h'
  · exact k x h'
theorem past_left {lo hi : Nat} {f g : List Nat} (h : ∀ x ∈ f ++ g, x < lo ∨ hi ≤ x) : ∀ x ∈ f, x < lo ∨ hi ≤ x := fun x hx => h x (List.mem_append_left _ hx)
theorem past_right {lo hi : Nat} {f g : List Nat} (h : ∀ x ∈ f ++ g, x < lo ∨ hi ≤ x) : ∀ x ∈ g, x < lo ∨ hi ≤ x := fun x hx => h x (List.mem_append_right _ hx)
theorem past_nil {lo hi : Nat} : ∀ x ∈ ([] : List Nat), x < lo ∨ hi ≤ x := fun x hx => by simp at hx

/-! ### Equal data -/
def TruePost (w : World) (e : Ending) (w' : World) : Prop := e = .returned (.bool true) ∧ Below w.heap.size w w'
def EqSaid (P : Program) (f : Nat) (d : D) : Prop := ∀ (w : World) (f1 f2 : List Nat) (c1 c2 : List Value), R w d f1 c1 → R w d f2 c2 → Calls P f #[.agg c1.toArray, .agg c2.toArray] w (TruePost w)
def EqsSaid (P : Program) (f : Nat) (l : List D) : Prop := ∀ (w : World) (f1 f2 : List Nat) (v1 v2 : Value), Sl w l f1 v1 → Sl w l f2 v2 → Calls P f #[v1, v2] w (TruePost w)
theorem rows2 {w w1 : World} {a b : Array Value} {ta tb : TypeId} (h : Below ((w.alloc (.cells a ta)).alloc (.cells b tb)).heap.size ((w.alloc (.cells a ta)).alloc (.cells b tb)) w1) :
    Row w1 w.heap.size ta a.toList ∧ Row w1 (w.heap.size + 1) tb b.toList ∧ w.heap.size + 2 ≤ w1.heap.size ∧ Below w.heap.size w w1 := by
  have e1 : (w.alloc (.cells a ta)).heap.size = w.heap.size + 1 := by simp
  have e2 : ((w.alloc (.cells a ta)).alloc (.cells b tb)).heap.size = w.heap.size + 2 := by simp
  have r0 := Row.new w ta a
  have r1 := Row.new (w.alloc (.cells a ta)) tb b
  rw [e1] at r1
  refine ⟨?_, r1.below h, by have := h.size; omega, ?_⟩
  · exact Row.below (Row.same r0 (Below.heap_alloc _ _ _ (by omega))) h
  · exact (((Below.refl _ _).alloc (Nat.le_refl _) _).alloc (by omega) _).trans (h.mono (by omega))
theorem rows1 {w w1 : World} {a : Array Value} {ta : TypeId} (h : Below (w.alloc (.cells a ta)).heap.size (w.alloc (.cells a ta)) w1) :
    Row w1 w.heap.size ta a.toList ∧ w.heap.size + 1 ≤ w1.heap.size ∧ Below w.heap.size w w1 := by
  have e1 : (w.alloc (.cells a ta)).heap.size = w.heap.size + 1 := by simp
  exact ⟨(Row.new w ta a).below h, by have := h.size; omega, ((Below.refl _ _).alloc (Nat.le_refl _) _).trans (h.mono (by omega))⟩
theorem below_drewN {B : Nat} {a w : World} (h : Below B a w) (n : Nat) : Below B a (w.drewN n) := ⟨h.os, h.tape, h.output, h.size, h.block⟩

end Go.Proofs.YtdjcflnemnknaaaDoor
