/-
  The program's walk over the names of an expression: FreeNames and UsesOf.
-/
import Derived.Test.YtkjodhljaehkjaaGreatSort
import Derived.Test.YtkjodhljaehkjaaGreatIrR
namespace Go.Proofs.YtkjodhljaehkjaaGreat
open Go.RowKit
set_option linter.unusedSimpArgs false
set_option linter.unusedVariables false
theorem idxFromS_neg : ∀ (l : List ByteArray) (s : ByteArray) (k : Nat), (decide (idxFromS l s k < 0)) = !hasS l s
  | [], s, k => by simp [idxFromS, hasS]
  | x :: l, s, k => by
    rw [idxFromS, hasS]
    by_cases h : x = s
    · rw [if_pos h]; simp [h]
    · rw [if_neg h, idxFromS_neg l s (k + 1)]; simp [h]
theorem idxS_neg (l : List ByteArray) (s : ByteArray) : decide (idxS l s < 0) = !hasS l s := idxFromS_neg l s 0
theorem indexOf_to (l : List ByteArray) (s : ByteArray) : CallsTo Tryz.prog 114 [.sl (l.map ls), ls s] (.c false [.raw (.int .i64 (idxS l s))]) := to_retQ fun w vs hr => by
  obtain ⟨v, u, rfl, h1, h2⟩ := rds2 hr
  obtain ⟨fp, hS⟩ := rd_sl h1
  obtain rfl := rd_leaf h2
  exact indexOf_impl l s fp v w hS
def ic_clos : IC := (.reg false [⟨(some 5), none, .load 1 false (.t 2)⟩, ⟨(some 6), none, .mov (.t 0)⟩, ⟨(some 7), none, .brow false 9 1 1 false [(.t 6)]⟩, ⟨(some 8), none, .app 9 1 (.t 5) (.t 7)⟩, ⟨none, none, .store 1 (.t 2) (.t 8)⟩])
theorem ic_clos_ok : compC Tryz.prog (Tryz.f106.body.getD .skip) = some ic_clos := by kernel_rfl
abbrev unitV : AV := .c false [.raw (.tuple #[])]
abbrev strsO (l : List ByteArray) (v : Nat) : Own := ⟨l.map ls, 9, 1, v, true⟩
theorem clos_s (pb : List AC) (hpb : ∀ n m, pb.all (AC.fits n m) = true) (l : List ByteArray) (s : ByteArray) (bv : AV) (ver : Nat) (ox : List Own) (bx : List (List AC)) (hl : l.length ≤ 4000000) (hb : BxFit (ox.length + 1) (bx.length + 2) bx) :
    CallsS Tryz.prog 106 [.c false [.raw (.string s)], bv, .bptr 1 0] (strsO l ver :: ox) (pb :: [.own 0 ver] :: bx) unitV (strsO (l ++ [s]) (ver + 1) :: ox) (pb :: [.own 0 (ver + 1)] :: bx) := by
  refine calls_s (fn := Tryz.f106) (rs := []) (by kernel_rfl) (by kernel_rfl) (by kernel_rfl) ic_clos_ok (by simp) (by simp) ?_
  unfold ic_clos
  change AWPn _ _ _ _ (stS 9 _ _ _)
  simp only [undef, stS, st0, stN, D.av, D.avN, sl_agg, leaf_agg, li_agg, ls_agg, sl_acs, leaf_acs, li_acs, ls_acs, GExpr.acs_eq, GExpr.flat_eq, GExpr.agg_eq, GExpr.el, GPart.acs_eq, GPart.flat_eq, GPart.agg_eq, GPart.el, List.map_cons, List.map_nil, List.replicate, List.cons_append, List.nil_append, List.length_cons, List.length_nil, Nat.reduceAdd, Nat.reduceSub]
  repeat' (first | (with_reducible first | refine awp_seq ?_ | refine awp_block ?_ | refine awp_skip ?_ | refine awp_exit ?_ | refine awp_ret ?_ | refine athen ?_ | refine thenExit ?_ | refine thenRet ?_ | refine blockNormal ?_ | refine blockExit ?_ | refine blockRet ?_ | refine roundExit ?_ | refine roundRet ?_ | refine roundExitR ?_ | refine roundRetR ?_) | ((with_reducible refine blockPass ?_ ?_); rfl) | ((with_reducible refine awp_condT ?_ ?_); rfl) | ((with_reducible refine awp_condF ?_ ?_); rfl) | (with_reducible (refine awp_condS rfl ?_ ?_); all_goals (intro hb; have hb' := hb; (try simp only [pkC] at hb'); first | (exfalso; omega) | skip)) | ((with_reducible refine awp_reg ?_); intro K hK) | ((first | ((with_reducible refine awp_regD false ?_ ?_); rfl) | ((with_reducible refine awp_regD true ?_ ?_); rfl)); intro K hK) | ((with_reducible refine sw_guardT ?_ ?_); rfl) | ((with_reducible refine sw_guardF ?_ ?_); rfl) | (with_reducible (refine sw_guardS rfl ?_ ?_); all_goals (intro hb; have hb' := hb; (try simp only [pkC] at hb'); first | (exfalso; omega) | skip)) | ((with_reducible refine sd_guardT ?_ ?_); rfl) | ((with_reducible refine sd_guardF ?_ ?_); rfl) | (with_reducible (refine sd_guardS rfl ?_ ?_); all_goals (intro hb; have hb' := hb; (try simp only [pkC] at hb'); first | (exfalso; omega) | skip)) | ((with_reducible refine hK _ ?_); clear hK K) | (with_reducible refine and_split ?_ ?_) | ((with_reducible refine sw_id ?_); simp (disch := first | decide | omega) only [↓pkS, pkW, pkA, undef, capsOf, ex, St.put, St.ev, kav, gdA, opI, rawI, vbin, srcOf, avsD, acsD, AV.toD, AC.toD, AV.nw, AC.nw, AC.one, Value.oneCell', fillA, D.one, D.ones, D.sz, D.szs, Nat.reduceAdd, Nat.reduceSub, Nat.reduceLeDiff, Nat.reduceEqDiff, reduceIte, pkN, GExpr.acs_eq, GExpr.flat_eq, GExpr.agg_eq, GExpr.el, GPart.acs_eq, GPart.flat_eq, GPart.agg_eq, GPart.el, tail_get, tail_get0, tail_set, tail_set0, List.append_assoc, Nat.add_assoc, Nat.reduceAdd, List.length_append]) | ((with_reducible refine sd_id ?_); simp (disch := first | decide | omega) only [↓pkR, pkD, pkA, undef, capsOf, ex, St.put, St.ev, kav, gdA, opI, rawI, vbin, srcOf, avsD, acsD, AV.toD, AC.toD, AV.nw, AC.nw, AC.one, Value.oneCell', fillA, D.one, D.ones, D.sz, D.szs, Nat.reduceAdd, Nat.reduceSub, Nat.reduceLeDiff, Nat.reduceEqDiff, reduceIte, pkN, GExpr.acs_eq, GExpr.flat_eq, GExpr.agg_eq, GExpr.el, GPart.acs_eq, GPart.flat_eq, GPart.agg_eq, GPart.el, tail_get, tail_get0, tail_set, tail_set0, List.append_assoc, Nat.add_assoc, Nat.reduceAdd, List.length_append]) | (first | (with_reducible rfl) | (with_reducible refine fnok_id ?_; kernel_rfl) | exact el_strs _ | exact el_ints _ | exact el_ln _ | exact el_tk _ _ | exact el_td _ _ _ | omega | (simp; done) | (simp; omega)) | ((with_reducible refine args_id ?_); simp [ArgsOk, ArgOk, argsD, argD, AC.toD, Value.oneCell', sl_flat, leaf_flat, li_flat, ls_flat, sl_agg, leaf_agg, li_agg, ls_agg, mo_t, mo_f, GExpr.acs_eq, GExpr.flat_eq, GExpr.agg_eq, GExpr.el, GPart.acs_eq, GPart.flat_eq, GPart.agg_eq, GPart.el, tail_get, tail_get0, tail_set, tail_set0, List.append_assoc, Nat.add_assoc, Nat.reduceAdd, List.length_append]; done))
  refine ⟨?_, ?_, ?_, rfl⟩
  · simp [OwnLe, ownLe_refl, strsO, ls]
  · exact ⟨rfl, rfl, boxLe_refl bx⟩
  · simp only [BxFit] at hb
    simp only [List.all_cons, hpb, Bool.true_and]
    simp [AC.fits, hb]
end Go.Proofs.YtkjodhljaehkjaaGreat
