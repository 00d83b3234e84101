/-
  Contracts that were proved by hand, for use at calls in states; and back.
-/
import Derived.Test.YtdjcflnemnknaaaDoorIrT
import Derived.Test.YtdjcflnemnknaaaDoorNames
namespace Go.Proofs.YtdjcflnemnknaaaDoor
open Go.RowKit
set_option linter.unusedSimpArgs false
set_option linter.unusedVariables false
theorem sl_agg (l : List D) : (D.sl l).isAgg = false := rfl
theorem leaf_agg (v : Value) : (D.leaf v).isAgg = false := rfl
theorem li_agg (n : Int) : (li n).isAgg = false := rfl
theorem ls_agg (s : ByteArray) : (ls s).isAgg = false := rfl
theorem sl_flat (l : List D) : (D.sl l).flat = [.sl l] := by rw [D.flat]
theorem leaf_flat (v : Value) : (D.leaf v).flat = [.leaf v] := by rw [D.flat]
theorem li_flat (n : Int) : (li n).flat = [.leaf (.int .i64 n)] := leaf_flat _
theorem ls_flat (s : ByteArray) : (ls s).flat = [.leaf (.string s)] := leaf_flat _
section
variable {P : Program} {f : Nat} {w : World}
theorem rds1 {d : D} {vs : List Value} (h : Rds w [d] vs) : ∃ v, vs = [v] ∧ Rd w d v := by
  match vs, h with
  | [v], h => exact ⟨v, rfl, h.1⟩
theorem rds2 {d e : D} {vs : List Value} (h : Rds w [d, e] vs) : ∃ v u, vs = [v, u] ∧ Rd w d v ∧ Rd w e u := by
  match vs, h with
  | [v, u], h => exact ⟨v, u, rfl, h.1, h.2.1⟩
theorem rds3 {d e g : D} {vs : List Value} (h : Rds w [d, e, g] vs) : ∃ v u z, vs = [v, u, z] ∧ Rd w d v ∧ Rd w e u ∧ Rd w g z := by
  match vs, h with
  | [v, u, z], h => exact ⟨v, u, z, rfl, h.1, h.2.1, h.2.2.1⟩
theorem rds4 {d e g k : D} {vs : List Value} (h : Rds w [d, e, g, k] vs) : ∃ v u z y, vs = [v, u, z, y] ∧ Rd w d v ∧ Rd w e u ∧ Rd w g z ∧ Rd w k y := by
  match vs, h with
  | [v, u, z, y], h => exact ⟨v, u, z, y, rfl, h.1, h.2.1, h.2.2.1, h.2.2.2.1⟩
theorem rd_sl {l : List D} {v : Value} (h : Rd w (.sl l) v) : ∃ fp, Sl w l fp v := by
  obtain ⟨fp, h⟩ := h
  exact ⟨fp, h⟩
theorem rd_leaf {u v : Value} (h : Rd w (.leaf u) v) : v = u := by
  obtain ⟨fp, h⟩ := h
  have h2 : fp = [] ∧ [v] = [u] := h
  simpa using h2.2
theorem rd_agg {d : D} {v : Value} (hd : d.isAgg = true) (h : Rd w d v) : ∃ fp cs, v = .agg cs.toArray ∧ R w d fp cs := by
  unfold Rd at h
  rw [if_pos hd] at h
  exact h
theorem rd_of_sl {l : List D} {fp : List Nat} {v : Value} (h : Sl w l fp v) : Rd w (.sl l) v := ⟨fp, h⟩
theorem rd_of_leaf (u : Value) : Rd w (.leaf u) u := ⟨[], rfl, rfl⟩
theorem rd_of_agg {d : D} {fp : List Nat} {cs : List Value} (hd : d.isAgg = true) (h : R w d fp cs) : Rd w d (.agg cs.toArray) := by
  unfold Rd
  rw [if_pos hd]
  exact ⟨fp, cs, rfl, h⟩
theorem to_retB {ds : List D} {u : Value} (h : ∀ w vs, Rds w ds vs → Calls P f vs.toArray w (RetB u w)) : CallsTo P f ds (.c false [.raw u]) := fun w vs hr _ => (h w vs hr).mono fun e w' ⟨h1, h2⟩ => ⟨u, h1, ⟨rfl, trivial⟩, h2⟩
theorem to_retQ {ds : List D} {u : Value} (h : ∀ w vs, Rds w ds vs → Calls P f vs.toArray w (RetQ u w)) : CallsTo P f ds (.c false [.raw u]) := fun w vs hr _ => (h w vs hr).mono fun e w' ⟨h1, h2⟩ => by
  subst h2
  exact ⟨u, h1, ⟨rfl, trivial⟩, Below.refl _ _⟩
theorem to_tos {ds l : List D} (h : ∀ w vs, Rds w ds vs → Calls P f vs.toArray w (TosPost l w)) : CallsTo P f ds (.c false [.sl true l]) := fun w vs hr _ => (h w vs hr).mono fun e w' ⟨fp, v, h1, h2, h3, h4⟩ =>
  ⟨v, h1, ⟨⟨fp, h2, fun b hb => ⟨newEnv_M.2 (h3.2 b hb).1, fun _ => Or.inl (h3.2 b hb).1⟩⟩, trivial⟩, h4⟩
theorem to_retBT {ds : List D} {u : Value} (h : ∀ w vs, Rds w ds vs → TabP w → Calls P f vs.toArray w (RetB u w)) : CallsTo P f ds (.c false [.raw u]) := fun w vs hr ht => (h w vs hr ht).mono fun e w' ⟨h1, h2⟩ => ⟨u, h1, ⟨rfl, trivial⟩, h2⟩
/-- What a call leaves that hands back one value of one cell. -/
theorem of_raw {ds : List D} {u : Value} (h : CallsTo P f ds (.c false [.raw u])) {w : World} {vs : List Value} (hr : Rds w ds vs) (ht : TabP w := by first | exact trivial | assumption) : Calls P f vs.toArray w (RetB u w) := (h w vs hr ht).mono fun e w' ⟨v, h1, h2, h3⟩ => by
  obtain rfl := h2.1
  exact ⟨h1, h3⟩
theorem of_own {ds l : List D} {e s : Nat} (h : CallsOwn P f ds l e s) (hf : FlatL l) {w : World} {vs : List Value} (hr : Rds w ds vs) (ht : TabP w := by first | exact trivial | assumption) : Calls P f vs.toArray w (TosPost l w) := (h w vs hr ht).mono fun en w' h1 => OwnPost.tos h1 hf
/-- A struct that holds one list. -/
def WrapPost (l : List D) (w : World) (e : Ending) (w' : World) : Prop := ∃ fp v, e = .returned (.agg #[v]) ∧ Sl w' l fp v ∧ Free w' w.heap.size fp ∧ Below w.heap.size w w'
/-- A struct that holds one list, and one more value. -/
def WrapPost2 (l : List D) (u : Value) (w : World) (e : Ending) (w' : World) : Prop := ∃ fp v, e = .returned (.tuple #[.agg #[v], u]) ∧ Sl w' l fp v ∧ Free w' w.heap.size fp ∧ Below w.heap.size w w'
theorem of_wrap {ds l : List D} {e s : Nat} (h : CallsOwnG P f ds true l e s) (hf : FlatL l) {w : World} {vs : List Value} (hr : Rds w ds vs) (ht : TabP w := by first | exact trivial | assumption) : Calls P f vs.toArray w (WrapPost l w) := (h w vs hr ht).mono fun en w' ⟨v, cs, f', h1, h2, h3, h4, h5⟩ => by
  have := hf _ _ _ h3
  subst this
  exact ⟨_, v, h1, Sl.of_at h2 h3, Free.of_at h2 Free.nil (fun g hg => by simp), h5⟩
theorem of_outW {ds l : List D} {e s : Nat} {u : Value} (h : CallsX P f ds (.tup [(true, [.own 0 0]), (false, [.raw u])]) [⟨l, e, s, 0, true⟩]) (hf : FlatL l) {w : World} {vs : List Value} (hr : Rds w ds vs) (ht : TabP w := by first | exact trivial | assumption) : Calls P f vs.toArray w (WrapPost2 l u w) := (h w vs hr ht).mono fun en w' ⟨v, om, h1, h2, h3, h4⟩ => by
  obtain ⟨us, rfl, h5⟩ := h3
  match us, h5 with
  | [a, b], ⟨h6, h7, _⟩ =>
    obtain ⟨xs, rfl, h8⟩ := h6
    obtain rfl := h7.1
    match xs, h8 with
    | [x], ⟨⟨_, o, p, g1, g2, g3, g4⟩, _⟩ =>
      simp at g1
      subst g1
      obtain rfl := g4 rfl
      obtain ⟨_, o2, _⟩ := h2
      obtain ⟨cs, k1, k2, k3, k4⟩ := o2 0 _ p rfl g2
      have := hf _ _ _ k2
      rw [this] at k2
      exact ⟨_, p.1, h1, Sl.of_at k1 k2, Free.of_at k1 Free.nil (fun g hg => by simp), h4⟩
/-- A wrapped own list and a value, as what it reads. -/
theorem CallsX.to {ds l : List D} {e s : Nat} {u : Value} (h : CallsX P f ds (.tup [(true, [.own 0 0]), (false, [.raw u])]) [⟨l, e, s, 0, true⟩]) (hf : FlatL l) : CallsTo P f ds (.tup [(true, [.sl true l]), (false, [.raw u])]) := fun w vs hr ht => (of_outW h hf hr ht).mono fun en w' ⟨fp, v, h1, h2, h3, h4⟩ =>
  ⟨_, h1, ⟨[.agg #[v], u], rfl, ⟨[v], rfl, ⟨fp, h2, fun b hb => ⟨newEnv_M.2 (h3.2 b hb).1, fun _ => Or.inl (h3.2 b hb).1⟩⟩, trivial⟩, ⟨rfl, trivial⟩, trivial⟩, h4⟩
end
end Go.Proofs.YtdjcflnemnknaaaDoor
