/-
  Edits of notebooks, both packages, by states.
-/
import Derived.Test.YtokplliaejbbdaaEdit1
import Derived.Test.YtokplliaejbbdaaValidNb
import Derived.Test.YtokplliaejbbdaaCells
import Derived.Test.YtokplliaejbbdaaIrR
namespace Go.Proofs.Ytokplliaejbbdaa
open Go.RowKit
set_option linter.unusedSimpArgs false
set_option linter.unusedVariables false
def ri (n : Int) : AV := .c false [.raw (.int .i64 n)]
def rb (b : Bool) : AV := .c false [.raw (.bool b)]
theorem nb_leaf {w : World} {x : GNb} {v : Value} (h : Rd w x.toD v) : ∃ fp u, v = .agg #[u] ∧ Sl w (x.cells.map GCell.toD) fp u ∧ R w x.toD fp [u] := by
  obtain ⟨fp, cs, rfl, h2⟩ := rd_agg x.agg_eq h
  have h3 := h2
  obtain ⟨u, g, rfl, rfl, h1⟩ := GNb.opened.1 h3
  exact ⟨_, u, rfl, h1, h2⟩
theorem cell_leaf {w : World} {x : GCell} {v : Value} (h : Rd w x.toD v) : v = .agg #[.int .i64 x.id, .int .i64 x.ver, .int .i64 x.kind, .string x.name, .string x.code, .int .i64 x.n] := by
  obtain ⟨fp, cs, rfl, h2⟩ := rd_agg x.agg_eq h
  obtain ⟨rfl, rfl⟩ := GCell.opened.1 h2
  rfl

theorem cellIndex_impl_to (x : GNb) (id : Int) : CallsTo Try.prog 46 [x.toD, li id] (.c false [.raw (.int .i64 (cellIdx x.cells id))]) := to_retB fun w vs hr => by
  obtain ⟨v, u, rfl, h1, h2⟩ := rds2 hr
  obtain ⟨fp, a, rfl, hS, _⟩ := nb_leaf h1
  obtain rfl := rd_leaf h2
  exact cellIndex_impl x.cells id fp a w hS
theorem isValidNb_impl_to (x : GNb) (hw : D.wfs (x.cells.map GCell.toD)) : CallsTo Try.prog 39 [x.toD] (.c false [.raw (.bool (validNb x.cells))]) := to_retB fun w vs hr => by
  obtain ⟨v, rfl, h1⟩ := rds1 hr
  obtain ⟨fp, a, rfl, hS, _⟩ := nb_leaf h1
  exact isValidNotebook_impl x.cells fp a w hS hw
theorem isValidCell_impl_to (x : GCell) (hw : x.toD.wf) : CallsTo Try.prog 53 [x.toD] (.c false [.raw (.bool (validCell x))]) := to_retB fun w vs hr => by
  obtain ⟨v, rfl, h1⟩ := rds1 hr
  obtain rfl := cell_leaf h1
  exact isValidCell_impl x hw w
theorem cellIndex_spec_to (x : GNb) (id : Int) : CallsTo Try.prog 32 [x.toD, li id] (.c false [.raw (.int .i64 (cellIdx x.cells id))]) := to_retB fun w vs hr => by
  obtain ⟨v, u, rfl, h1, h2⟩ := rds2 hr
  obtain ⟨fp, a, rfl, hS, _⟩ := nb_leaf h1
  obtain rfl := rd_leaf h2
  exact cellIndex_spec x.cells id fp a w hS
theorem isValidNb_spec_to (x : GNb) (hw : D.wfs (x.cells.map GCell.toD)) : CallsTo Try.prog 30 [x.toD] (.c false [.raw (.bool (validNb x.cells))]) := to_retB fun w vs hr => by
  obtain ⟨v, rfl, h1⟩ := rds1 hr
  obtain ⟨fp, a, rfl, hS, _⟩ := nb_leaf h1
  exact isValidNotebook_spec x.cells fp a w hS hw
theorem isValidCell_spec_to (x : GCell) (hw : x.toD.wf) : CallsTo Try.prog 33 [x.toD] (.c false [.raw (.bool (validCell x))]) := to_retB fun w vs hr => by
  obtain ⟨v, rfl, h1⟩ := rds1 hr
  obtain rfl := cell_leaf h1
  exact isValidCell_spec x hw w
theorem within_to (n lo hi : Int) : CallsTo Try.prog 40 [li n, li lo, li hi] (.c false [.raw (.bool (inR n lo hi))]) := to_retQ fun w vs hr => by
  obtain ⟨v, u, z, rfl, h1, h2, h3⟩ := rds3 hr
  obtain rfl := rd_leaf h1
  obtain rfl := rd_leaf h2
  obtain rfl := rd_leaf h3
  exact within_any n lo hi w
theorem l1In_to (n lo hi : Int) : CallsTo Try.prog 31 [li n, li lo, li hi] (.c false [.raw (.bool (inR n lo hi))]) := to_retQ fun w vs hr => by
  obtain ⟨v, u, z, rfl, h1, h2, h3⟩ := rds3 hr
  obtain rfl := rd_leaf h1
  obtain rfl := rd_leaf h2
  obtain rfl := rd_leaf h3
  exact l1In_any n lo hi w
theorem removed_impl_to (l : List GCell) (k : Nat) (hk : k < l.length) (hn : l.length ≤ 1048576) : CallsTo Try.prog 55 [.sl (l.map GCell.toD), li k] (.c false [.sl true ((dropAt l k).map GCell.toD)]) := to_tos fun w vs hr => by
  obtain ⟨v, u, rfl, h1, h2⟩ := rds2 hr
  obtain ⟨fp, hS⟩ := rd_sl h1
  obtain rfl := rd_leaf h2
  exact removed_impl l k fp v w hS hk hn
theorem l20Drop_spec_to (l : List GCell) (k : Nat) (hk : k < l.length) (hn : l.length ≤ 1048576) : CallsTo Try.prog 35 [.sl (l.map GCell.toD), li k] (.c false [.sl true ((dropAt l k).map GCell.toD)]) := to_tos fun w vs hr => by
  obtain ⟨v, u, rfl, h1, h2⟩ := rds2 hr
  obtain ⟨fp, hS⟩ := rd_sl h1
  obtain rfl := rd_leaf h2
  exact l20Drop_spec l k fp v w hS hk hn
theorem inserted_impl_to (l : List GCell) (a : Int) (x : GCell) (hn : l.length ≤ 1048576) : CallsTo Try.prog 54 [.sl (l.map GCell.toD), li a, x.toD] (.c false [.sl true ((putAt l (clampN a l.length) x).map GCell.toD)]) := to_tos fun w vs hr => by
  obtain ⟨v, u, z, rfl, h1, h2, h3⟩ := rds3 hr
  obtain ⟨fp, hS⟩ := rd_sl h1
  obtain rfl := rd_leaf h2
  obtain rfl := cell_leaf h3
  exact inserted_impl l a x fp v w hS hn
theorem l20Put_spec_to (l : List GCell) (a : Int) (x : GCell) (hn : l.length ≤ 1048576) : CallsTo Try.prog 34 [.sl (l.map GCell.toD), li a, x.toD] (.c false [.sl true ((putAt l (clampN a l.length) x).map GCell.toD)]) := to_tos fun w vs hr => by
  obtain ⟨v, u, z, rfl, h1, h2, h3⟩ := rds3 hr
  obtain ⟨fp, hS⟩ := rd_sl h1
  obtain rfl := rd_leaf h2
  obtain rfl := cell_leaf h3
  exact l20Put_spec l a x fp v w hS hn
def ic_copyNb_impl : IC := (.seq (.reg false [⟨(some 1), none, .box (.t 0)⟩, ⟨(some 2), none, .alloc [(.slice none 0 0)]⟩]) (.seq (.reg false [⟨(some 3), none, .brow true 37 6 0 false []⟩, ⟨(some 4), none, .fad 0 (.t 1)⟩, ⟨(some 5), none, .load 1 false (.t 4)⟩, ⟨(some 6), none, .app 37 6 (.t 3) (.t 5)⟩, ⟨(some 7), none, .bld [(.slice none 0 0)] [(0, 1, (.t 6))]⟩, ⟨none, none, .store 1 (.t 2) (.t 7)⟩]) .ret))
theorem ic_copyNb_impl_ok : compC Try.prog (Try.f41.body.getD .skip) = some ic_copyNb_impl := by kernel_rfl
theorem copyNb_impl (x : GNb) (hn : x.cells.length ≤ 4194304) : CallsOwnG Try.prog 41 [x.toD] true (x.cells.map GCell.toD) 37 6 := by
  refine calls_wrap (fn := Try.f41) (t := 2) (ty := 33) (by kernel_rfl) (by kernel_rfl) (by kernel_rfl) (by kernel_rfl) ic_copyNb_impl_ok ?_
  have hn' : (x.cells.map GCell.toD).length ≤ 4194304 := by simpa using hn
  change AWP _ _ _ (st0 8 _)
  unfold ic_copyNb_impl
  simp only [undef, st0, stN, D.av, D.avN, sl_agg, leaf_agg, li_agg, ls_agg, sl_acs, leaf_acs, li_acs, ls_acs, GNb.acs_eq, GNb.flat_eq, GNb.agg_eq, GCell.acs_eq, GCell.flat_eq, GCell.agg_eq, GCell.el, GEdit.acs_eq, GEdit.flat_eq, GEdit.agg_eq, List.map_cons, List.map_nil, List.replicate, List.cons_append, List.nil_append, List.length_cons, List.length_nil, Nat.reduceAdd, Nat.reduceSub]
  repeat (first | (with_reducible refine awp_seq ?_) | (with_reducible refine awp_block ?_) | (with_reducible refine awp_skip ?_) | (with_reducible refine awp_exit ?_) | (with_reducible refine awp_ret ?_) | (with_reducible refine athen ?_) | (with_reducible refine thenExit ?_) | (with_reducible refine thenRet ?_) | (with_reducible refine blockNormal ?_) | (with_reducible refine blockExit ?_) | (with_reducible refine blockRet ?_) | (with_reducible refine roundExit ?_) | (with_reducible refine roundRet ?_) | ((with_reducible refine blockPass ?_ ?_); rfl) | ((with_reducible refine awp_condT ?_ ?_); rfl) | ((with_reducible refine awp_condF ?_ ?_); rfl) | ((with_reducible refine awp_reg ?_); intro K hK; simp only [↓pkS, ↓sw_guard, pkW, pkA, idx_nat, subB, undef, capsOf, ex, St.put, St.ev, kav, gdA, opI, rawI, vbin, srcOf, avsD, acsD, AV.toD, AC.toD, AV.nw, AC.nw, AC.one, Value.oneCell', fillA, D.one, D.ones, D.sz, D.szs, Nat.reduceAdd, Nat.reduceSub, Nat.reduceLeDiff, Nat.reduceEqDiff, reduceIte, GNb.acs_eq, GNb.flat_eq, GNb.agg_eq, GCell.acs_eq, GCell.flat_eq, GCell.agg_eq, GCell.el, GEdit.acs_eq, GEdit.flat_eq, GEdit.agg_eq]; first | (refine hK _ ?_; clear hK K) | (refine ⟨by (first | omega | (simp; omega)), hK _ ?_⟩; clear hK K) | (refine ⟨by (first | omega | (simp; omega)), by (first | omega | (simp; omega)), hK _ ?_⟩; clear hK K)))
  exact endRet ⟨1, 0, 1, rfl, rfl, _, rfl, rfl, rfl, rfl, rfl, Or.inr (GCell.flatL _)⟩
def ic_copyNb_spec : IC := (.seq (.reg false [⟨(some 1), none, .box (.t 0)⟩, ⟨(some 2), none, .alloc [(.slice none 0 0)]⟩]) (.seq (.reg false [⟨(some 3), none, .brow true 37 6 0 false []⟩, ⟨(some 4), none, .fad 0 (.t 1)⟩, ⟨(some 5), none, .load 1 false (.t 4)⟩, ⟨(some 6), none, .app 37 6 (.t 3) (.t 5)⟩, ⟨(some 7), none, .bld [(.slice none 0 0)] [(0, 1, (.t 6))]⟩, ⟨none, none, .store 1 (.t 2) (.t 7)⟩]) .ret))
theorem ic_copyNb_spec_ok : compC Try.prog (Try.f29.body.getD .skip) = some ic_copyNb_spec := by kernel_rfl
theorem copyNb_spec (x : GNb) (hn : x.cells.length ≤ 4194304) : CallsOwnG Try.prog 29 [x.toD] true (x.cells.map GCell.toD) 37 6 := by
  refine calls_wrap (fn := Try.f29) (t := 2) (ty := 33) (by kernel_rfl) (by kernel_rfl) (by kernel_rfl) (by kernel_rfl) ic_copyNb_spec_ok ?_
  have hn' : (x.cells.map GCell.toD).length ≤ 4194304 := by simpa using hn
  change AWP _ _ _ (st0 8 _)
  unfold ic_copyNb_spec
  simp only [undef, st0, stN, D.av, D.avN, sl_agg, leaf_agg, li_agg, ls_agg, sl_acs, leaf_acs, li_acs, ls_acs, GNb.acs_eq, GNb.flat_eq, GNb.agg_eq, GCell.acs_eq, GCell.flat_eq, GCell.agg_eq, GCell.el, GEdit.acs_eq, GEdit.flat_eq, GEdit.agg_eq, List.map_cons, List.map_nil, List.replicate, List.cons_append, List.nil_append, List.length_cons, List.length_nil, Nat.reduceAdd, Nat.reduceSub]
  repeat (first | (with_reducible refine awp_seq ?_) | (with_reducible refine awp_block ?_) | (with_reducible refine awp_skip ?_) | (with_reducible refine awp_exit ?_) | (with_reducible refine awp_ret ?_) | (with_reducible refine athen ?_) | (with_reducible refine thenExit ?_) | (with_reducible refine thenRet ?_) | (with_reducible refine blockNormal ?_) | (with_reducible refine blockExit ?_) | (with_reducible refine blockRet ?_) | (with_reducible refine roundExit ?_) | (with_reducible refine roundRet ?_) | ((with_reducible refine blockPass ?_ ?_); rfl) | ((with_reducible refine awp_condT ?_ ?_); rfl) | ((with_reducible refine awp_condF ?_ ?_); rfl) | ((with_reducible refine awp_reg ?_); intro K hK; simp only [↓pkS, ↓sw_guard, pkW, pkA, idx_nat, subB, undef, capsOf, ex, St.put, St.ev, kav, gdA, opI, rawI, vbin, srcOf, avsD, acsD, AV.toD, AC.toD, AV.nw, AC.nw, AC.one, Value.oneCell', fillA, D.one, D.ones, D.sz, D.szs, Nat.reduceAdd, Nat.reduceSub, Nat.reduceLeDiff, Nat.reduceEqDiff, reduceIte, GNb.acs_eq, GNb.flat_eq, GNb.agg_eq, GCell.acs_eq, GCell.flat_eq, GCell.agg_eq, GCell.el, GEdit.acs_eq, GEdit.flat_eq, GEdit.agg_eq]; first | (refine hK _ ?_; clear hK K) | (refine ⟨by (first | omega | (simp; omega)), hK _ ?_⟩; clear hK K) | (refine ⟨by (first | omega | (simp; omega)), by (first | omega | (simp; omega)), hK _ ?_⟩; clear hK K)))
  exact endRet ⟨1, 0, 1, rfl, rfl, _, rfl, rfl, rfl, rfl, rfl, Or.inr (GCell.flatL _)⟩
end Go.Proofs.Ytokplliaejbbdaa
