/-
  Contracts in states, in the form that the laws' texts ask for.
-/
import Derived.Test.YtdjcflnemnknaaaDoorIrG
import Derived.Test.YtdjcflnemnknaaaDoorMark
namespace Go.Proofs.YtdjcflnemnknaaaDoor
open Go.RowKit
set_option linter.unusedSimpArgs false
set_option linter.unusedVariables false
section
variable {P : Program} {f : Nat} {w : World}
/-! ### What the laws ask of results -/
/-- New memory, in the form of Free; nothing is said on its marks. -/
def FreeW (w : World) (base : Nat) (fp : List Nat) : Prop := True ∧ ∀ b ∈ fp, base ≤ b ∧ True
theorem FreeW.mono {w : World} {base base' : Nat} {fp : List Nat} (h : FreeW w base fp) (hb : base' ≤ base) : FreeW w base' fp := ⟨trivial, fun b hm => ⟨Nat.le_trans hb (h.2 b hm).1, trivial⟩⟩
theorem FreeW.below {w w' : World} {base : Nat} {fp : List Nat} (h : FreeW w base fp) (hl : ∀ b ∈ fp, b < w.heap.size) (hb : Below w.heap.size w w') : FreeW w' base fp := ⟨trivial, h.2⟩
theorem FreeW.touch {fp : List Nat} {a b : World} {base : Nat} {g : List Nat} (hF : FreeW a base g) (hl : ∀ x ∈ g, x < a.heap.size) (h : Touch fp a b) : FreeW b base g := ⟨trivial, hF.2⟩
/-- A struct and one more value. -/
def PairPost (d : D) (u : Value) (w : World) (e : Ending) (w' : World) : Prop := ∃ fp cs, e = .returned (.tuple #[.agg cs.toArray, u]) ∧ R w' d fp cs ∧ Free w' w.heap.size fp ∧ Below w.heap.size w w'
def PairPostW (d : D) (u : Value) (w : World) (e : Ending) (w' : World) : Prop := ∃ fp cs, e = .returned (.tuple #[.agg cs.toArray, u]) ∧ R w' d fp cs ∧ FreeW w' w.heap.size fp ∧ Below w.heap.size w w'
/-- A struct whose cells are all known hands over its datum. -/
theorem of_flat {E : Env} {os : List Own} {w : World} : ∀ {l : List D} {n : Bool} {vs : List Value}, (∀ d ∈ l, d.isAgg = false) → Oks E os w (l.map (D.ac n)) vs → ∃ fp, Rs w l fp vs ∧ ∀ b ∈ fp, b ∉ E.M ∧ (n = true → E.nw b)
  | [], _, [], _, _ => ⟨[], ⟨rfl, rfl⟩, fun b hb => by simp at hb⟩
  | d :: l, n, v :: vs, ha, h => by
    obtain ⟨f2, r2, m2⟩ := of_flat (fun x hx => ha x (by simp [hx])) h.2
    have h1 := h.1
    cases d with
    | leaf u =>
      obtain rfl : v = u := h1
      exact ⟨f2, ⟨[], f2, [v], vs, rfl, rfl, ⟨rfl, rfl⟩, r2⟩, m2⟩
    | sl l' =>
      obtain ⟨fp, g1, g2⟩ := h1
      refine ⟨fp ++ f2, ⟨fp, f2, [v], vs, rfl, rfl, g1, r2⟩, fun b hb => ?_⟩
      rcases List.mem_append.1 hb with hb | hb
      · exact g2 b hb
      · exact m2 b hb
    | agg l' => have := ha (.agg l') (by simp); cases this
  | [], _, _ :: _, _, h => h.elim
  | _ :: _, _, [], _, h => h.elim
theorem pairW {ds : List D} {d : D} {u : Value} (h : CallsTo P f ds (.tup [(true, d.acs true), (false, [.raw u])])) {w : World} {vs : List Value} (hr : Rds w ds vs) (ht : TabP w := by first | exact trivial | assumption) : Calls P f vs.toArray w (PairPostW d u w) := (h w vs hr ht).mono fun e w' ⟨v, h1, h2, h3⟩ => by
  obtain ⟨us, rfl, h5⟩ := h2
  match us, h5 with
  | [a, b], ⟨h6, h7, _⟩ =>
    obtain ⟨xs, rfl, h8⟩ := h6
    obtain rfl := h7.1
    obtain ⟨fp, r, m⟩ := of_flat (flat_noagg d) h8
    exact ⟨fp, xs, h1, R_flat.2 r, ⟨trivial, fun x hx => ⟨newEnv_M.1 (m x hx).1, trivial⟩⟩, h3⟩
end
end Go.Proofs.YtdjcflnemnknaaaDoor
