/-
  ApplyEdit's contracts in the laws' form.
-/
import Derived.Test.YtokplliaejbbdaaEdit4
import Derived.Test.YtokplliaejbbdaaIrL
namespace Go.Proofs.Ytokplliaejbbdaa
open Go.RowKit
set_option linter.unusedSimpArgs false
set_option linter.unusedVariables false
theorem cnts_cells : ∀ (l : List GCell), D.cnts (l.map GCell.toD) = 6 * l.length
  | [] => rfl
  | c :: l => by
    rw [List.map_cons, D.cnts, cnts_cells l, GCell.toD_eq]
    simp [D.cnt, D.cnts, li, ls]
    omega
theorem apply_impl_law (x : GNb) (e : GEdit) (fp fe : List Nat) (cs ce : List Value) (w : World) (hx : R w x.toD fp cs) (he : R w e.toD fe ce) (hn : x.cells.length ≤ 1048576) (hwl : D.wfs (x.cells.map GCell.toD)) (hew : e.toD.wf) :
    Calls Try.prog 11 #[.agg cs.toArray, .agg ce.toArray] w (PairPost (GNb.toD ⟨(app x.cells e).1⟩) (.int .i64 (app x.cells e).2) w) := by
  have := of_outW (apply_impl_x x e hn hwl hew) (GCell.flatL _) (w := w) (vs := [.agg cs.toArray, .agg ce.toArray]) ⟨rd_of_agg x.agg_eq hx, rd_of_agg e.agg_eq he, trivial⟩
  refine this.mono ?_
  rintro en w' ⟨f, v, rfl, h1, h2, h3⟩
  exact ⟨f, [v], rfl, GNb.opened.2 ⟨v, f, rfl, rfl, h1⟩, h2, h3⟩
theorem apply_spec_law (x : GNb) (e : GEdit) (fp fe : List Nat) (cs ce : List Value) (w : World) (hx : R w x.toD fp cs) (he : R w e.toD fe ce) (hn : x.cells.length ≤ 1048576) (hwl : D.wfs (x.cells.map GCell.toD)) (hew : e.toD.wf) :
    Calls Try.prog 8 #[.agg cs.toArray, .agg ce.toArray] w (PairPostW (GNb.toD ⟨(app x.cells e).1⟩) (.int .i64 (app x.cells e).2) w) := by
  refine pairW (ds := [x.toD, e.toD]) (d := GNb.toD ⟨(app x.cells e).1⟩) (vs := [.agg cs.toArray, .agg ce.toArray]) ?_ ⟨rd_of_agg x.agg_eq hx, rd_of_agg e.agg_eq he, trivial⟩
  have := apply_spec_to x e hn hwl hew
  rwa [GNb.acs_eq]
end Go.Proofs.Ytokplliaejbbdaa
