/-
  MissingNames of both packages.
-/
import Derived.Test.YtkjodhljaehkjaaGreatVisit
import Derived.Test.YtkjodhljaehkjaaGreatDefs2
namespace Go.Proofs.YtkjodhljaehkjaaGreat
open Go.RowKit
set_option linter.unusedSimpArgs false
set_option linter.unusedVariables false
theorem wts_append : ∀ (a b : List D), D.wts (a ++ b) = D.wts a + D.wts b
  | [], b => by simp [D.wts]
  | d :: a, b => by rw [List.cons_append, D.wts, D.wts, wts_append a b]; omega
def missOf (l : List GPart) (us : List ByteArray) : List ByteArray := us.filter fun s => resV (defsTo l s l.length) == -1
theorem missOf_t (l : List GPart) (us : List ByteArray) {k : Nat} (h : k < us.length) (e : (resV (defsTo l us[k] l.length) == -1) = true) : missOf l (us.take (k + 1)) = missOf l (us.take k) ++ [us[k]] := by
  unfold missOf; rw [List.take_succ_eq_append_getElem h, List.filter_append, List.filter_cons, if_pos e]; rfl
theorem missOf_f (l : List GPart) (us : List ByteArray) {k : Nat} (h : k < us.length) (e : (resV (defsTo l us[k] l.length) == -1) = false) : missOf l (us.take (k + 1)) = missOf l (us.take k) := by
  unfold missOf; rw [List.take_succ_eq_append_getElem h, List.filter_append, List.filter_cons, if_neg (by simp [e])]; simp
def missTo (l : List GPart) : Nat → List ByteArray
  | 0 => []
  | k + 1 => missTo l k ++ (match l[k]? with | some p => missOf l (usesL p) | none => [])
theorem missTo_succ (l : List GPart) {k : Nat} (h : k < l.length) : missTo l (k + 1) = missTo l k ++ missOf l (usesL l[k]) := by
  rw [missTo, List.getElem?_eq_getElem h]
theorem usesL_wt (x : GPart) : (usesL x).length ≤ 1 + x.toD.wt := by
  unfold usesL
  split
  · have := sortN_len (x.expr.free [])
    have := x.expr.free_len []
    have := x.expr_wt
    omega
  · simp
theorem missOf_len (l : List GPart) (us : List ByteArray) (k : Nat) : (missOf l (us.take k)).length ≤ us.length := by
  unfold missOf
  refine Nat.le_trans (List.length_filter_le _ _) ?_
  rw [List.length_take]; omega
theorem missTo_len (l : List GPart) : ∀ (k : Nat), k ≤ l.length → (missTo l k).length ≤ k + D.wts ((l.take k).map GPart.toD)
  | 0, _ => by simp [missTo]
  | k + 1, h => by
    have ih := missTo_len l k (by omega)
    have h1 : k < l.length := by omega
    rw [missTo_succ l h1, List.length_append, List.take_succ_eq_append_getElem h1, List.map_append, wts_append]
    have h2 := missOf_len l (usesL l[k]) (usesL l[k]).length
    rw [List.take_length] at h2
    have h3 := usesL_wt l[k]
    simp only [List.map_cons, List.map_nil, D.wts]
    omega
theorem miss_room (l : List GPart) {k : Nat} (h : k < l.length) (j : Nat) : (missTo l k).length + (missOf l ((usesL l[k]).take j)).length ≤ l.length + D.wts (l.map GPart.toD) := by
  have h1 := missTo_len l k (by omega)
  have h2 := missOf_len l (usesL l[k]) j
  have h3 := usesL_wt l[k]
  have h4 := wts_take_get (l.map GPart.toD) k (by simpa using h)
  rw [← List.map_take, List.getElem_map] at h4
  omega
theorem missTo_all (l : List GPart) : (missTo l l.length).length ≤ l.length + D.wts (l.map GPart.toD) := by
  have := missTo_len l l.length (Nat.le_refl _)
  rwa [List.take_length] at this
theorem part_wt {l : List GPart} (hw : l.length + D.wts (l.map GPart.toD) ≤ 1048576) {k : Nat} (h : k < l.length) : (l[k]).expr.toD.wt ≤ 1048576 := by
  have h4 := wts_take_get (l.map GPart.toD) k (by simpa using h)
  rw [List.getElem_map] at h4
  have := (l[k]).expr_wt
  omega
theorem resolve_spec_t (l : List GPart) (s : ByteArray) (hn : l.length ≤ 1048576) : CallsTo Tryz.prog 59 [.sl (l.map GPart.toD), ls s] (.c false [.raw (.int .i64 (resV (defsTo l s l.length)))]) := to_retB fun w vs hr => by
  obtain ⟨v, u, rfl, h1, h2⟩ := rds2 hr
  obtain ⟨fp, hS⟩ := rd_sl h1
  obtain rfl := rd_leaf h2
  exact resolve_spec l s fp v w hS hn
theorem resolve_impl_t (l : List GPart) (s : ByteArray) (hn : l.length ≤ 1048576) : CallsTo Tryz.prog 62 [.sl (l.map GPart.toD), ls s] (.c false [.raw (.int .i64 (resV (defsTo l s l.length)))]) := to_retB fun w vs hr => by
  obtain ⟨v, u, rfl, h1, h2⟩ := rds2 hr
  obtain ⟨fp, hS⟩ := rd_sl h1
  obtain rfl := rd_leaf h2
  exact resolve_impl l s fp v w hS hn
end Go.Proofs.YtkjodhljaehkjaaGreat
