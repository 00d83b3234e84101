/-
  The free names of an expression and the uses of a part.
-/
import Derived.Test.YtkjodhljaehkjaaGreatFree2
namespace Go.Proofs.YtkjodhljaehkjaaGreat
open Go.RowKit
set_option linter.unusedSimpArgs false
set_option linter.unusedVariables false
theorem OwnStrs.own {l : List ByteArray} {w w' : World} {en : Ending} (h : OwnStrs l w en w') : OwnPost false (l.map ls) 9 1 w en w' := by
  obtain ⟨f, v, rfl, ⟨cs, h1, h2, h3, h4⟩, h5⟩ := h
  exact ⟨v, cs, f, rfl, OwnsAt.of h1, h2, fun b hb => ⟨fun e => h4 b e.symm hb, (h3.2 b hb).1⟩, h5⟩
theorem GExpr.free_max (x : GExpr) (b : List ByteArray) : (x.free b).length ≤ max 1 x.toD.wt := by
  rw [GExpr.free_eq]
  split
  · simp; omega
  · have := GExpr.frees_len x.args b (x.inner b)
    have := x.wt_e
    omega
theorem sortNames_spec_to (l : List ByteArray) (hn : l.length ≤ 1048576) : CallsOwn Tryz.prog 104 [.sl (l.map ls)] ((sortN l).map ls) 9 1 := fun w vs hr => by
  obtain ⟨v, rfl, h1⟩ := rds1 hr
  obtain ⟨fp, hS⟩ := rd_sl h1
  exact (sortNames_spec_own l fp v w hS hn).mono fun _ _ h => h.own
theorem sortNames_impl_to (l : List ByteArray) (hn : l.length ≤ 1048576) : CallsOwn Tryz.prog 108 [.sl (l.map ls)] ((sortN l).map ls) 9 1 := fun w vs hr => by
  obtain ⟨v, rfl, h1⟩ := rds1 hr
  obtain ⟨fp, hS⟩ := rd_sl h1
  exact (sortNames_impl_own l fp v w hS hn).mono fun _ _ h => h.own
def ic_freeNames : IC := (.seq (.reg false [⟨(some 1), none, .box (.t 0)⟩, ⟨(some 2), none, .mov (.k (.slice none 0 0))⟩]) (.seq (.reg false [⟨(some 3), none, .load 4 true (.t 1)⟩, ⟨(some 4), none, .brow true 9 1 0 false []⟩, ⟨(some 5), none, .call 105 [(.t 3), (.t 4)]⟩, ⟨(some 6), none, .call 104 [(.t 5)]⟩, ⟨(some 2), none, .mov (.t 6)⟩]) .ret))
theorem ic_freeNames_ok : compC Tryz.prog (Tryz.f87.body.getD .skip) = some ic_freeNames := by kernel_rfl
theorem freeNames_spec_to (x : GExpr) (hw : x.toD.wt ≤ 1048576) : CallsOwn Tryz.prog 87 [x.toD] ((sortN (x.free [])).map ls) 9 1 := by
  refine calls_own (fn := Tryz.f87) (t := 2) (by kernel_rfl) (by kernel_rfl) (by kernel_rfl) ic_freeNames_ok ?_
  change AWP _ _ _ (st0 7 _)
  have hm := x.free_max []
  unfold ic_freeNames
  simp only [undef, st0, stN, D.av, D.avN, sl_agg, leaf_agg, li_agg, ls_agg, sl_acs, leaf_acs, li_acs, ls_acs, GExpr.acs_eq, GExpr.flat_eq, GExpr.agg_eq, GExpr.el, GPart.acs_eq, GPart.flat_eq, GPart.agg_eq, GPart.el, List.map_cons, List.map_nil, List.replicate, List.cons_append, List.nil_append, List.length_cons, List.length_nil, Nat.reduceAdd, Nat.reduceSub]
  repeat (first | (with_reducible refine awp_seq ?_) | (with_reducible refine awp_block ?_) | (with_reducible refine awp_skip ?_) | (with_reducible refine awp_exit ?_) | (with_reducible refine awp_ret ?_) | (with_reducible refine athen ?_) | (with_reducible refine thenExit ?_) | (with_reducible refine thenRet ?_) | (with_reducible refine blockNormal ?_) | (with_reducible refine blockExit ?_) | (with_reducible refine blockRet ?_) | (with_reducible refine roundExit ?_) | (with_reducible refine roundRet ?_) | ((with_reducible refine blockPass ?_ ?_); rfl) | ((with_reducible refine awp_condT ?_ ?_); rfl) | ((with_reducible refine awp_condF ?_ ?_); rfl) | ((with_reducible refine awp_reg ?_); intro K hK; simp only [↓pkS, ↓sw_guard, pkW, pkA, idx_nat, subB, undef, capsOf, ex, St.put, St.ev, kav, gdA, opI, rawI, vbin, srcOf, avsD, acsD, AV.toD, AC.toD, AV.nw, AC.nw, AC.one, Value.oneCell', fillA, D.one, D.ones, D.sz, D.szs, Nat.reduceAdd, Nat.reduceSub, Nat.reduceLeDiff, Nat.reduceEqDiff, reduceIte, GExpr.acs_eq, GExpr.flat_eq, GExpr.agg_eq, GExpr.el, GPart.acs_eq, GPart.flat_eq, GPart.agg_eq, GPart.el]; repeat (first | (refine hK _ ?_; clear hK K) | (refine ⟨by (first | omega | (simp; omega)), hK _ ?_⟩; clear hK K) | (refine ⟨by (first | omega | (simp; omega)), by (first | omega | (simp; omega)), hK _ ?_⟩; clear hK K) | ((first | (refine callOwn (l13Free_own x [] (by simp; omega)) (el_strs _) (by simp [ArgsOk, ArgOk, argsD, argD, AC.toD, Value.oneCell', sl_flat, leaf_flat, li_flat, ls_flat, sl_agg, leaf_agg, li_agg, ls_agg, GExpr.acs_eq, GExpr.flat_eq, GExpr.agg_eq, GExpr.el, GPart.acs_eq, GPart.flat_eq, GPart.agg_eq, GPart.el]) ?_) | (refine callOwn (sortNames_spec_to (x.free []) (by omega)) (el_strs _) (by simp [ArgsOk, ArgOk, argsD, argD, AC.toD, Value.oneCell', sl_flat, leaf_flat, li_flat, ls_flat, sl_agg, leaf_agg, li_agg, ls_agg, GExpr.acs_eq, GExpr.flat_eq, GExpr.agg_eq, GExpr.el, GPart.acs_eq, GPart.flat_eq, GPart.agg_eq, GPart.el]) ?_)); simp only [↓pkS, ↓sw_guard, pkW, pkA, idx_nat, subB, undef, capsOf, ex, St.put, St.ev, kav, gdA, opI, rawI, vbin, srcOf, avsD, acsD, AV.toD, AC.toD, AV.nw, AC.nw, AC.one, Value.oneCell', fillA, D.one, D.ones, D.sz, D.szs, Nat.reduceAdd, Nat.reduceSub, Nat.reduceLeDiff, Nat.reduceEqDiff, reduceIte, GExpr.acs_eq, GExpr.flat_eq, GExpr.agg_eq, GExpr.el, GPart.acs_eq, GPart.flat_eq, GPart.agg_eq, GPart.el]))))
  exact endRet ⟨2, 0, _, rfl, rfl, rfl, rfl, rfl, rfl, Or.inl rfl⟩
def usesL (x : GPart) : List ByteArray := if x.kind == 2 then sortN (x.expr.free []) else []
theorem usesL_len (x : GPart) (hw : x.expr.toD.wt ≤ 1048576) : (usesL x).length ≤ 1048576 := by
  unfold usesL
  split
  · have := sortN_len (x.expr.free [])
    have := x.expr.free_max []
    omega
  · simp
def ic_uses_spec : IC := (.seq (.reg false [⟨(some 1), none, .box (.t 0)⟩, ⟨(some 2), none, .mov (.k (.slice none 0 0))⟩]) (.seq (.seq (.reg false [⟨(some 3), none, .fad 0 (.t 1)⟩, ⟨(some 4), none, .load 1 false (.t 3)⟩, ⟨(some 5), none, .bin .neq (.t 4) (.k (.int .i64 2))⟩]) (.cond (.t 5) (.seq (.reg false [⟨(some 6), none, .brow true 9 1 0 false []⟩, ⟨(some 2), none, .mov (.t 6)⟩]) .ret) .skip)) (.seq (.reg false [⟨(some 7), none, .fad 2 (.t 1)⟩, ⟨(some 8), none, .load 4 true (.t 7)⟩, ⟨(some 9), none, .call 87 [(.t 8)]⟩, ⟨(some 2), none, .mov (.t 9)⟩]) .ret)))
theorem ic_uses_spec_ok : compC Tryz.prog (Tryz.f58.body.getD .skip) = some ic_uses_spec := by kernel_rfl
theorem usesOf_spec_to (x : GPart) (hw : x.expr.toD.wt ≤ 1048576) : CallsOwn Tryz.prog 58 [x.toD] ((usesL x).map ls) 9 1 := by
  refine calls_own (fn := Tryz.f58) (t := 2) (by kernel_rfl) (by kernel_rfl) (by kernel_rfl) ic_uses_spec_ok ?_
  change AWP _ _ _ (st0 10 _)
  unfold ic_uses_spec
  simp only [undef, st0, stN, D.av, D.avN, sl_agg, leaf_agg, li_agg, ls_agg, sl_acs, leaf_acs, li_acs, ls_acs, GExpr.acs_eq, GExpr.flat_eq, GExpr.agg_eq, GExpr.el, GPart.acs_eq, GPart.flat_eq, GPart.agg_eq, GPart.el, List.map_cons, List.map_nil, List.replicate, List.cons_append, List.nil_append, List.length_cons, List.length_nil, Nat.reduceAdd, Nat.reduceSub]
  cases k : (x.kind == 2) with
  | true =>
    have kn : (x.kind != 2) = false := by simp only [bne, k]; rfl
    have hU : usesL x = sortN (x.expr.free []) := by simp [usesL, k]
    rw [hU]
    repeat (first | (with_reducible refine awp_seq ?_) | (with_reducible refine awp_block ?_) | (with_reducible refine awp_skip ?_) | (with_reducible refine awp_exit ?_) | (with_reducible refine awp_ret ?_) | (with_reducible refine athen ?_) | (with_reducible refine thenExit ?_) | (with_reducible refine thenRet ?_) | (with_reducible refine blockNormal ?_) | (with_reducible refine blockExit ?_) | (with_reducible refine blockRet ?_) | (with_reducible refine roundExit ?_) | (with_reducible refine roundRet ?_) | ((with_reducible refine blockPass ?_ ?_); rfl) | ((with_reducible refine awp_condT ?_ ?_); rfl) | ((with_reducible refine awp_condF ?_ ?_); rfl) | ((with_reducible refine awp_reg ?_); intro K hK; simp only [↓pkS, ↓sw_guard, pkW, pkA, idx_nat, subB, undef, capsOf, ex, St.put, St.ev, kav, gdA, opI, rawI, vbin, srcOf, avsD, acsD, AV.toD, AC.toD, AV.nw, AC.nw, AC.one, Value.oneCell', fillA, D.one, D.ones, D.sz, D.szs, Nat.reduceAdd, Nat.reduceSub, Nat.reduceLeDiff, Nat.reduceEqDiff, reduceIte, GExpr.acs_eq, GExpr.flat_eq, GExpr.agg_eq, GExpr.el, GPart.acs_eq, GPart.flat_eq, GPart.agg_eq, GPart.el, k, kn]; repeat (first | (refine hK _ ?_; clear hK K) | (refine ⟨by (first | omega | (simp; omega)), hK _ ?_⟩; clear hK K) | (refine ⟨by (first | omega | (simp; omega)), by (first | omega | (simp; omega)), hK _ ?_⟩; clear hK K) | ((first | (refine callOwn (freeNames_spec_to x.expr hw) (el_strs _) (by simp [ArgsOk, ArgOk, argsD, argD, AC.toD, Value.oneCell', sl_flat, leaf_flat, li_flat, ls_flat, sl_agg, leaf_agg, li_agg, ls_agg, GExpr.acs_eq, GExpr.flat_eq, GExpr.agg_eq, GExpr.el, GPart.acs_eq, GPart.flat_eq, GPart.agg_eq, GPart.el, k, kn]) ?_)); simp only [↓pkS, ↓sw_guard, pkW, pkA, idx_nat, subB, undef, capsOf, ex, St.put, St.ev, kav, gdA, opI, rawI, vbin, srcOf, avsD, acsD, AV.toD, AC.toD, AV.nw, AC.nw, AC.one, Value.oneCell', fillA, D.one, D.ones, D.sz, D.szs, Nat.reduceAdd, Nat.reduceSub, Nat.reduceLeDiff, Nat.reduceEqDiff, reduceIte, GExpr.acs_eq, GExpr.flat_eq, GExpr.agg_eq, GExpr.el, GPart.acs_eq, GPart.flat_eq, GPart.agg_eq, GPart.el, k, kn]))))
    exact endRet ⟨0, 0, _, rfl, rfl, rfl, rfl, rfl, rfl, Or.inl rfl⟩
  | false =>
    have kn : (x.kind != 2) = true := by simp only [bne, k]; rfl
    have hU : usesL x = [] := by simp [usesL, k]
    rw [hU]
    repeat (first | (with_reducible refine awp_seq ?_) | (with_reducible refine awp_block ?_) | (with_reducible refine awp_skip ?_) | (with_reducible refine awp_exit ?_) | (with_reducible refine awp_ret ?_) | (with_reducible refine athen ?_) | (with_reducible refine thenExit ?_) | (with_reducible refine thenRet ?_) | (with_reducible refine blockNormal ?_) | (with_reducible refine blockExit ?_) | (with_reducible refine blockRet ?_) | (with_reducible refine roundExit ?_) | (with_reducible refine roundRet ?_) | ((with_reducible refine blockPass ?_ ?_); rfl) | ((with_reducible refine awp_condT ?_ ?_); rfl) | ((with_reducible refine awp_condF ?_ ?_); rfl) | ((with_reducible refine awp_reg ?_); intro K hK; simp only [↓pkS, ↓sw_guard, pkW, pkA, idx_nat, subB, undef, capsOf, ex, St.put, St.ev, kav, gdA, opI, rawI, vbin, srcOf, avsD, acsD, AV.toD, AC.toD, AV.nw, AC.nw, AC.one, Value.oneCell', fillA, D.one, D.ones, D.sz, D.szs, Nat.reduceAdd, Nat.reduceSub, Nat.reduceLeDiff, Nat.reduceEqDiff, reduceIte, GExpr.acs_eq, GExpr.flat_eq, GExpr.agg_eq, GExpr.el, GPart.acs_eq, GPart.flat_eq, GPart.agg_eq, GPart.el, k, kn]; repeat (first | (refine hK _ ?_; clear hK K) | (refine ⟨by (first | omega | (simp; omega)), hK _ ?_⟩; clear hK K) | (refine ⟨by (first | omega | (simp; omega)), by (first | omega | (simp; omega)), hK _ ?_⟩; clear hK K) | ((first | (refine callOwn (freeNames_spec_to x.expr hw) (el_strs _) (by simp [ArgsOk, ArgOk, argsD, argD, AC.toD, Value.oneCell', sl_flat, leaf_flat, li_flat, ls_flat, sl_agg, leaf_agg, li_agg, ls_agg, GExpr.acs_eq, GExpr.flat_eq, GExpr.agg_eq, GExpr.el, GPart.acs_eq, GPart.flat_eq, GPart.agg_eq, GPart.el, k, kn]) ?_)); simp only [↓pkS, ↓sw_guard, pkW, pkA, idx_nat, subB, undef, capsOf, ex, St.put, St.ev, kav, gdA, opI, rawI, vbin, srcOf, avsD, acsD, AV.toD, AC.toD, AV.nw, AC.nw, AC.one, Value.oneCell', fillA, D.one, D.ones, D.sz, D.szs, Nat.reduceAdd, Nat.reduceSub, Nat.reduceLeDiff, Nat.reduceEqDiff, reduceIte, GExpr.acs_eq, GExpr.flat_eq, GExpr.agg_eq, GExpr.el, GPart.acs_eq, GPart.flat_eq, GPart.agg_eq, GPart.el, k, kn]))))
    exact endRet ⟨0, 0, _, rfl, rfl, rfl, rfl, rfl, rfl, Or.inl rfl⟩
end Go.Proofs.YtkjodhljaehkjaaGreat
