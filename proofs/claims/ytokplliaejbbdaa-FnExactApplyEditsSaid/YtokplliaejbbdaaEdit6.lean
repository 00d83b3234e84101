/-
  InverseEdit and ApplyEdits, both packages.
-/
import Derived.Test.YtokplliaejbbdaaEdit5
import Derived.Test.YtokplliaejbbdaaIrR
namespace Go.Proofs.Ytokplliaejbbdaa
open Go.RowKit
set_option linter.unusedSimpArgs false
set_option linter.unusedVariables false
theorem pkE : type_of% (And.intro @GNb.acs_eq (And.intro @GNb.flat_eq (And.intro @GNb.agg_eq (And.intro @GCell.acs_eq (And.intro @GCell.flat_eq (And.intro @GCell.agg_eq (And.intro @GCell.el (And.intro @GEdit.acs_eq (And.intro @GEdit.flat_eq (And.intro @GEdit.agg_eq (@GEdit.el))))))))))) := And.intro @GNb.acs_eq (And.intro @GNb.flat_eq (And.intro @GNb.agg_eq (And.intro @GCell.acs_eq (And.intro @GCell.flat_eq (And.intro @GCell.agg_eq (And.intro @GCell.el (And.intro @GEdit.acs_eq (And.intro @GEdit.flat_eq (And.intro @GEdit.agg_eq (@GEdit.el))))))))))
/-- The cell that names no more than an id. -/
def idCell (id : Int) : GCell := ⟨id, 0, 0, ⟨#[]⟩, ⟨#[]⟩, 0⟩
/-- What InverseEdit gives. -/
def inv (l : List GCell) (e : GEdit) : GEdit × Bool :=
  if ((app l e).2 != 0) = true then (⟨0, 0, idCell 0⟩, false) else
  (if e.kind = 1 then ⟨2, 0, idCell e.cell.id⟩
   else match l[(cellIdx l e.cell.id).toNat]? with
    | none => ⟨0, 0, idCell 0⟩
    | some o =>
      if e.kind = 2 then ⟨1, cellIdx l e.cell.id, o⟩
      else if e.kind = 3 then ⟨3, cellIdx l e.cell.id, idCell e.cell.id⟩
      else if e.kind = 4 then ⟨4, 0, ⟨e.cell.id, 0, 0, o.name, o.code, 0⟩⟩
      else if e.kind = 5 then ⟨5, 0, ⟨e.cell.id, 0, 0, ⟨#[]⟩, ⟨#[]⟩, o.n⟩⟩
      else ⟨6, 0, idCell e.cell.id⟩, true)
theorem app_ok {l : List GCell} {e : GEdit} (h : (app l e).2 = 0) : validNb l = true ∧ inR e.kind 1 6 = true ∧ (e.kind = 1 ∨ ∃ k, ∃ hk : k < l.length, cellIdx l e.cell.id = (k : Int) ∧ l[(cellIdx l e.cell.id).toNat]? = some l[k]) := by
  unfold app at h
  split at h
  · next hv =>
    simp only [Bool.and_eq_true] at hv
    refine ⟨hv.1, hv.2, ?_⟩
    by_cases h1 : e.kind = 1
    · exact Or.inl h1
    · refine Or.inr ?_
      unfold chg at h
      rw [if_neg h1] at h
      rcases cellIdx_cases l e.cell.id with hc | ⟨k, hk, hc⟩
      · rw [hc] at h
        simp at h
      · exact ⟨k, hk, hc, by rw [hc]; simp [hk]⟩
  · simp at h
theorem inR_16 {n : Int} (h : inR n 1 6 = true) : n = 1 ∨ n = 2 ∨ n = 3 ∨ n = 4 ∨ n = 5 ∨ n = 6 := by
  unfold inR at h
  simp at h
  omega
def ic_inv_spec : IC := (.seq (.reg false [⟨(some 2), none, .box (.t 0)⟩, ⟨(some 3), none, .box (.t 1)⟩, ⟨(some 4), none, .alloc [(.int .i64 0), (.int .i64 0), (.int .i64 0), (.int .i64 0), (.int .i64 0), (.string ⟨#[]⟩), (.string ⟨#[]⟩), (.int .i64 0)]⟩, ⟨(some 5), none, .mov (.k (.bool false))⟩]) (.seq (.reg false [⟨(some 12), none, .load 1 true (.t 2)⟩, ⟨(some 13), none, .load 8 true (.t 3)⟩, ⟨(some 14), none, .call 8 [(.t 12), (.t 13)]⟩, ⟨(some 11), none, .mov (.t 14)⟩, ⟨(some 15), none, .ext 0 (.t 11)⟩, ⟨(some 16), none, .ext 1 (.t 11)⟩, ⟨(some 6), none, .alloc [(.slice none 0 0)]⟩, ⟨none, none, .store 1 (.t 6) (.t 15)⟩, ⟨(some 7), none, .mov (.t 16)⟩]) (.seq (.seq (.reg false [⟨(some 17), none, .mov (.t 7)⟩, ⟨(some 18), none, .bin .neq (.t 17) (.k (.int .i64 0))⟩]) (.cond (.t 18) (.seq (.reg false [⟨(some 19), none, .bld [(.int .i64 0), (.int .i64 0), (.int .i64 0), (.int .i64 0), (.int .i64 0), (.string ⟨#[]⟩), (.string ⟨#[]⟩), (.int .i64 0)] []⟩, ⟨none, none, .store 8 (.t 4) (.t 19)⟩, ⟨(some 5), none, .mov (.k (.bool false))⟩]) .ret) .skip)) (.seq (.reg false [⟨(some 20), none, .fad 2 (.t 3)⟩, ⟨(some 21), none, .fad 0 (.t 20)⟩, ⟨(some 22), none, .load 1 false (.t 21)⟩, ⟨(some 23), none, .bld [(.int .i64 0), (.int .i64 0), (.int .i64 0), (.string ⟨#[]⟩), (.string ⟨#[]⟩), (.int .i64 0)] [(0, 1, (.t 22))]⟩, ⟨(some 8), none, .alloc [(.int .i64 0), (.int .i64 0), (.int .i64 0), (.string ⟨#[]⟩), (.string ⟨#[]⟩), (.int .i64 0)]⟩, ⟨none, none, .store 6 (.t 8) (.t 23)⟩]) (.seq (.seq (.reg false [⟨(some 24), none, .fad 0 (.t 3)⟩, ⟨(some 25), none, .load 1 false (.t 24)⟩, ⟨(some 26), none, .bin .eql (.t 25) (.k (.int .i64 1))⟩]) (.cond (.t 26) (.seq (.reg false [⟨(some 27), none, .load 6 true (.t 8)⟩, ⟨(some 28), none, .bld [(.int .i64 0), (.int .i64 0), (.int .i64 0), (.int .i64 0), (.int .i64 0), (.string ⟨#[]⟩), (.string ⟨#[]⟩), (.int .i64 0)] [(0, 1, (.k (.int .i64 2))), (2, 6, (.t 27))]⟩, ⟨none, none, .store 8 (.t 4) (.t 28)⟩, ⟨(some 5), none, .mov (.k (.bool true))⟩]) .ret) .skip)) (.seq (.reg false [⟨(some 29), none, .load 1 true (.t 2)⟩, ⟨(some 30), none, .fad 2 (.t 3)⟩, ⟨(some 31), none, .fad 0 (.t 30)⟩, ⟨(some 32), none, .load 1 false (.t 31)⟩, ⟨(some 33), none, .call 32 [(.t 29), (.t 32)]⟩, ⟨(some 9), none, .mov (.t 33)⟩]) (.seq (.reg false [⟨(some 34), none, .fad 0 (.t 2)⟩, ⟨(some 35), none, .load 1 false (.t 34)⟩, ⟨(some 36), none, .mov (.t 9)⟩, ⟨(some 37), none, .iad 6 (.t 35) (.t 36)⟩, ⟨(some 38), none, .load 6 true (.t 37)⟩, ⟨(some 10), none, .alloc [(.int .i64 0), (.int .i64 0), (.int .i64 0), (.string ⟨#[]⟩), (.string ⟨#[]⟩), (.int .i64 0)]⟩, ⟨none, none, .store 6 (.t 10) (.t 38)⟩]) (.seq (.seq (.reg false [⟨(some 39), none, .fad 0 (.t 3)⟩, ⟨(some 40), none, .load 1 false (.t 39)⟩]) (.block 0 (.seq (.reg false [⟨(some 42), none, .bin .eql (.t 40) (.k (.int .i64 2))⟩, ⟨(some 41), none, .mov (.t 42)⟩]) (.cond (.t 41) (.seq (.reg false [⟨(some 43), none, .mov (.t 9)⟩, ⟨(some 44), none, .load 6 true (.t 10)⟩, ⟨(some 45), none, .bld [(.int .i64 0), (.int .i64 0), (.int .i64 0), (.int .i64 0), (.int .i64 0), (.string ⟨#[]⟩), (.string ⟨#[]⟩), (.int .i64 0)] [(0, 1, (.k (.int .i64 1))), (1, 1, (.t 43)), (2, 6, (.t 44))]⟩, ⟨none, none, .store 8 (.t 4) (.t 45)⟩, ⟨(some 5), none, .mov (.k (.bool true))⟩]) .ret) (.seq (.reg false [⟨(some 47), none, .bin .eql (.t 40) (.k (.int .i64 3))⟩, ⟨(some 46), none, .mov (.t 47)⟩]) (.cond (.t 46) (.seq (.reg false [⟨(some 48), none, .mov (.t 9)⟩, ⟨(some 49), none, .load 6 true (.t 8)⟩, ⟨(some 50), none, .bld [(.int .i64 0), (.int .i64 0), (.int .i64 0), (.int .i64 0), (.int .i64 0), (.string ⟨#[]⟩), (.string ⟨#[]⟩), (.int .i64 0)] [(0, 1, (.k (.int .i64 3))), (1, 1, (.t 48)), (2, 6, (.t 49))]⟩, ⟨none, none, .store 8 (.t 4) (.t 50)⟩, ⟨(some 5), none, .mov (.k (.bool true))⟩]) .ret) (.seq (.reg false [⟨(some 52), none, .bin .eql (.t 40) (.k (.int .i64 4))⟩, ⟨(some 51), none, .mov (.t 52)⟩]) (.cond (.t 51) (.seq (.reg false [⟨(some 53), none, .fad 3 (.t 10)⟩, ⟨(some 54), none, .load 1 false (.t 53)⟩, ⟨(some 55), none, .fad 3 (.t 8)⟩, ⟨none, none, .store 1 (.t 55) (.t 54)⟩]) (.seq (.reg false [⟨(some 56), none, .fad 4 (.t 10)⟩, ⟨(some 57), none, .load 1 false (.t 56)⟩, ⟨(some 58), none, .fad 4 (.t 8)⟩, ⟨none, none, .store 1 (.t 58) (.t 57)⟩]) (.seq (.reg false [⟨(some 59), none, .load 6 true (.t 8)⟩, ⟨(some 60), none, .bld [(.int .i64 0), (.int .i64 0), (.int .i64 0), (.int .i64 0), (.int .i64 0), (.string ⟨#[]⟩), (.string ⟨#[]⟩), (.int .i64 0)] [(0, 1, (.k (.int .i64 4))), (2, 6, (.t 59))]⟩, ⟨none, none, .store 8 (.t 4) (.t 60)⟩, ⟨(some 5), none, .mov (.k (.bool true))⟩]) .ret))) (.seq (.reg false [⟨(some 62), none, .bin .eql (.t 40) (.k (.int .i64 5))⟩, ⟨(some 61), none, .mov (.t 62)⟩]) (.cond (.t 61) (.seq (.reg false [⟨(some 63), none, .fad 5 (.t 10)⟩, ⟨(some 64), none, .load 1 false (.t 63)⟩, ⟨(some 65), none, .fad 5 (.t 8)⟩, ⟨none, none, .store 1 (.t 65) (.t 64)⟩]) (.seq (.reg false [⟨(some 66), none, .load 6 true (.t 8)⟩, ⟨(some 67), none, .bld [(.int .i64 0), (.int .i64 0), (.int .i64 0), (.int .i64 0), (.int .i64 0), (.string ⟨#[]⟩), (.string ⟨#[]⟩), (.int .i64 0)] [(0, 1, (.k (.int .i64 5))), (2, 6, (.t 66))]⟩, ⟨none, none, .store 8 (.t 4) (.t 67)⟩, ⟨(some 5), none, .mov (.k (.bool true))⟩]) .ret)) .skip)))))))))) (.seq (.reg false [⟨(some 68), none, .load 6 true (.t 8)⟩, ⟨(some 69), none, .bld [(.int .i64 0), (.int .i64 0), (.int .i64 0), (.int .i64 0), (.int .i64 0), (.string ⟨#[]⟩), (.string ⟨#[]⟩), (.int .i64 0)] [(0, 1, (.k (.int .i64 6))), (2, 6, (.t 68))]⟩, ⟨none, none, .store 8 (.t 4) (.t 69)⟩, ⟨(some 5), none, .mov (.k (.bool true))⟩]) .ret)))))))))
theorem ic_inv_spec_ok : compC Try.prog (Try.f15.body.getD .skip) = some ic_inv_spec := by kernel_rfl
set_option maxHeartbeats 16000000 in
theorem inverse_spec_to (x : GNb) (e : GEdit) (hn : x.cells.length ≤ 1048576) (hwl : D.wfs (x.cells.map GCell.toD)) (hew : e.toD.wf) : CallsTo Try.prog 15 [x.toD, e.toD] (.tup [(true, (inv x.cells e).1.toD.acs true), (false, [.raw (.bool (inv x.cells e).2)])]) := by
  refine calls_two (fn := Try.f15) (r := .cell 4 39) (q := .tmp 5) (by kernel_rfl) (by kernel_rfl) (by kernel_rfl) (by rw [GEdit.acs_eq]; kernel_rfl) ic_inv_spec_ok ?_
  have hap := apply_spec_to x e hn hwl hew
  change AWP _ _ _ (st0 70 _)
  unfold ic_inv_spec
  cases hc : ((app x.cells e).2 != 0) with
  | true =>
    have hI : inv x.cells e = (⟨0, 0, idCell 0⟩, false) := by unfold inv; rw [if_pos hc]
    rw [hI]
    simp only [undef, stS, st0, stN, D.av, D.avN, sl_agg, leaf_agg, li_agg, ls_agg, sl_acs, leaf_acs, li_acs, ls_acs, GNb.acs_eq, GNb.flat_eq, GNb.agg_eq, GCell.acs_eq, GCell.flat_eq, GCell.agg_eq, GCell.el, GEdit.acs_eq, GEdit.flat_eq, GEdit.agg_eq, GEdit.el, List.map_cons, List.map_nil, List.replicate, List.cons_append, List.nil_append, List.length_cons, List.length_nil, Nat.reduceAdd, Nat.reduceSub]
    simp only [idCell]
    repeat' (first | (with_reducible first | refine awp_seq ?_ | refine awp_block ?_ | refine awp_skip ?_ | refine awp_exit ?_ | refine awp_ret ?_ | refine athen ?_ | refine thenExit ?_ | refine thenRet ?_ | refine blockNormal ?_ | refine blockExit ?_ | refine blockRet ?_ | refine roundExit ?_ | refine roundRet ?_ | refine roundExitR ?_ | refine roundRetR ?_) | ((with_reducible refine blockPass ?_ ?_); rfl) | ((with_reducible refine awp_condT ?_ ?_); rfl) | ((with_reducible refine awp_condF ?_ ?_); rfl) | (with_reducible (refine awp_condS rfl ?_ ?_); all_goals (intro hb; have hb' := hb; (try simp only [pkC] at hb'); first | (exfalso; omega) | skip)) | ((with_reducible refine awp_reg ?_); intro K hK) | ((with_reducible refine hK _ ?_); clear hK K) | (with_reducible refine and_split ?_ ?_) | ((with_reducible refine ct_id ?_); first | (refine callThen hap trivial ?_ ?_)) | ((with_reducible refine ctd_id ?_); first | (refine callThenD hap trivial ?_ ?_)) | ((with_reducible refine sw_id ?_); simp (disch := first | decide | omega) only [↓pkS, pkW, pkA, undef, capsOf, ex, St.put, St.ev, kav, gdA, opI, rawI, vbin, srcOf, avsD, acsD, AV.toD, AC.toD, AV.nw, AC.nw, AC.one, Value.oneCell', fillA, D.one, D.ones, D.sz, D.szs, Nat.reduceAdd, Nat.reduceSub, Nat.reduceLeDiff, Nat.reduceEqDiff, reduceIte, pkN, pkE, hc]) | (first | (with_reducible rfl) | (with_reducible refine fnok_id ?_; kernel_rfl) | exact el_strs _ | exact el_ints _ | exact el_ln _ | exact el_tk _ _ | exact el_td _ _ _ | omega | (simp; done) | (simp; omega)) | ((with_reducible refine args_id ?_); simp [ArgsOk, ArgOk, argsD, argD, AC.toD, Value.oneCell', sl_flat, leaf_flat, li_flat, ls_flat, sl_agg, leaf_agg, li_agg, ls_agg, mo_t, mo_f, pkE, hc]; first | done | rfl))
    all_goals exact endRet ⟨⟨2, _, rfl, rfl, by simp [AcsFits, AcFits]⟩, ⟨_, rfl, rfl, trivial⟩⟩
  | false =>
    have hcn := hc
    have hc : (app x.cells e).2 = 0 := by simpa using hc
    obtain ⟨hval, hin, hidx⟩ := app_ok hc
    simp only [undef, stS, st0, stN, D.av, D.avN, sl_agg, leaf_agg, li_agg, ls_agg, sl_acs, leaf_acs, li_acs, ls_acs, GNb.acs_eq, GNb.flat_eq, GNb.agg_eq, GCell.acs_eq, GCell.flat_eq, GCell.agg_eq, GCell.el, GEdit.acs_eq, GEdit.flat_eq, GEdit.agg_eq, GEdit.el, List.map_cons, List.map_nil, List.replicate, List.cons_append, List.nil_append, List.length_cons, List.length_nil, Nat.reduceAdd, Nat.reduceSub]
    rcases inR_16 hin with hk0 | hk0 | hk0 | hk0 | hk0 | hk0
    · have he : e.kind = 1 := hk0
      have k1 : (e.kind == 1) = true := by rw [he]; rfl
      have k2 : (e.kind == 2) = false := by rw [he]; rfl
      have k3 : (e.kind == 3) = false := by rw [he]; rfl
      have k4 : (e.kind == 4) = false := by rw [he]; rfl
      have k5 : (e.kind == 5) = false := by rw [he]; rfl
      have k6 : (e.kind == 6) = false := by rw [he]; rfl
      have hci := cellIndex_spec_to x e.cell.id
      have hI : inv x.cells e = (⟨2, 0, idCell e.cell.id⟩, true) := by unfold inv; rw [if_neg (by rw [hc]; simp), if_pos he]
      rw [hI]
      simp only [GEdit.acs_eq, idCell]
      repeat' (first | (with_reducible first | refine awp_seq ?_ | refine awp_block ?_ | refine awp_skip ?_ | refine awp_exit ?_ | refine awp_ret ?_ | refine athen ?_ | refine thenExit ?_ | refine thenRet ?_ | refine blockNormal ?_ | refine blockExit ?_ | refine blockRet ?_ | refine roundExit ?_ | refine roundRet ?_ | refine roundExitR ?_ | refine roundRetR ?_) | ((with_reducible refine blockPass ?_ ?_); rfl) | ((with_reducible refine awp_condT ?_ ?_); rfl) | ((with_reducible refine awp_condF ?_ ?_); rfl) | (with_reducible (refine awp_condS rfl ?_ ?_); all_goals (intro hb; have hb' := hb; (try simp only [pkC] at hb'); first | (exfalso; omega) | skip)) | ((with_reducible refine awp_reg ?_); intro K hK) | ((with_reducible refine hK _ ?_); clear hK K) | (with_reducible refine and_split ?_ ?_) | ((with_reducible refine ct_id ?_); first | (refine callThen hap trivial ?_ ?_) | (refine callThen hci trivial ?_ ?_)) | ((with_reducible refine ctd_id ?_); first | (refine callThenD hap trivial ?_ ?_) | (refine callThenD hci trivial ?_ ?_)) | ((with_reducible refine sw_id ?_); simp (disch := first | decide | omega) only [↓pkS, pkW, pkA, undef, capsOf, ex, St.put, St.ev, kav, gdA, opI, rawI, vbin, srcOf, avsD, acsD, AV.toD, AC.toD, AV.nw, AC.nw, AC.one, Value.oneCell', fillA, D.one, D.ones, D.sz, D.szs, Nat.reduceAdd, Nat.reduceSub, Nat.reduceLeDiff, Nat.reduceEqDiff, reduceIte, pkN, pkE, k1, k2, k3, k4, k5, k6, hcn]) | (first | (with_reducible rfl) | (with_reducible refine fnok_id ?_; kernel_rfl) | exact el_strs _ | exact el_ints _ | exact el_ln _ | exact el_tk _ _ | exact el_td _ _ _ | omega | (simp; done) | (simp; omega)) | ((with_reducible refine args_id ?_); simp [ArgsOk, ArgOk, argsD, argD, AC.toD, Value.oneCell', sl_flat, leaf_flat, li_flat, ls_flat, sl_agg, leaf_agg, li_agg, ls_agg, mo_t, mo_f, pkE, k1, k2, k3, k4, k5, k6, hcn]; first | done | rfl))
      all_goals exact endRet ⟨⟨2, _, rfl, rfl, by simp [AcsFits, AcFits, he]⟩, ⟨_, rfl, rfl, trivial⟩⟩
    · have he : e.kind = 2 := hk0
      have k1 : (e.kind == 1) = false := by rw [he]; rfl
      have k2 : (e.kind == 2) = true := by rw [he]; rfl
      have k3 : (e.kind == 3) = false := by rw [he]; rfl
      have k4 : (e.kind == 4) = false := by rw [he]; rfl
      have k5 : (e.kind == 5) = false := by rw [he]; rfl
      have k6 : (e.kind == 6) = false := by rw [he]; rfl
      rcases hidx with h9 | ⟨k, hk, hcx, hge⟩
      · omega
      have hci := cellIndex_spec_to x e.cell.id
      rw [hcx] at hci
      have hI : inv x.cells e = (⟨1, (k : Int), x.cells[k]⟩, true) := by
        unfold inv
        rw [if_neg (by rw [hc]; simp), if_neg (by omega), hge]
        simp [he, hcx]
      rw [hI]
      simp only [GEdit.acs_eq, idCell]
      repeat' (first | (with_reducible first | refine awp_seq ?_ | refine awp_block ?_ | refine awp_skip ?_ | refine awp_exit ?_ | refine awp_ret ?_ | refine athen ?_ | refine thenExit ?_ | refine thenRet ?_ | refine blockNormal ?_ | refine blockExit ?_ | refine blockRet ?_ | refine roundExit ?_ | refine roundRet ?_ | refine roundExitR ?_ | refine roundRetR ?_) | ((with_reducible refine blockPass ?_ ?_); rfl) | ((with_reducible refine awp_condT ?_ ?_); rfl) | ((with_reducible refine awp_condF ?_ ?_); rfl) | (with_reducible (refine awp_condS rfl ?_ ?_); all_goals (intro hb; have hb' := hb; (try simp only [pkC] at hb'); first | (exfalso; omega) | skip)) | ((with_reducible refine awp_reg ?_); intro K hK) | ((with_reducible refine hK _ ?_); clear hK K) | (with_reducible refine and_split ?_ ?_) | ((with_reducible refine ct_id ?_); first | (refine callThen hap trivial ?_ ?_) | (refine callThen hci trivial ?_ ?_)) | ((with_reducible refine ctd_id ?_); first | (refine callThenD hap trivial ?_ ?_) | (refine callThenD hci trivial ?_ ?_)) | ((with_reducible refine sw_id ?_); simp (disch := first | decide | omega) only [↓pkS, pkW, pkA, undef, capsOf, ex, St.put, St.ev, kav, gdA, opI, rawI, vbin, srcOf, avsD, acsD, AV.toD, AC.toD, AV.nw, AC.nw, AC.one, Value.oneCell', fillA, D.one, D.ones, D.sz, D.szs, Nat.reduceAdd, Nat.reduceSub, Nat.reduceLeDiff, Nat.reduceEqDiff, reduceIte, pkN, pkE, k1, k2, k3, k4, k5, k6, hcn]) | (first | (with_reducible rfl) | (with_reducible refine fnok_id ?_; kernel_rfl) | exact el_strs _ | exact el_ints _ | exact el_ln _ | exact el_tk _ _ | exact el_td _ _ _ | omega | (simp; done) | (simp; omega)) | ((with_reducible refine args_id ?_); simp [ArgsOk, ArgOk, argsD, argD, AC.toD, Value.oneCell', sl_flat, leaf_flat, li_flat, ls_flat, sl_agg, leaf_agg, li_agg, ls_agg, mo_t, mo_f, pkE, k1, k2, k3, k4, k5, k6, hcn]; first | done | rfl))
      all_goals exact endRet ⟨⟨2, _, rfl, rfl, by simp [AcsFits, AcFits, he]⟩, ⟨_, rfl, rfl, trivial⟩⟩
    · have he : e.kind = 3 := hk0
      have k1 : (e.kind == 1) = false := by rw [he]; rfl
      have k2 : (e.kind == 2) = false := by rw [he]; rfl
      have k3 : (e.kind == 3) = true := by rw [he]; rfl
      have k4 : (e.kind == 4) = false := by rw [he]; rfl
      have k5 : (e.kind == 5) = false := by rw [he]; rfl
      have k6 : (e.kind == 6) = false := by rw [he]; rfl
      rcases hidx with h9 | ⟨k, hk, hcx, hge⟩
      · omega
      have hci := cellIndex_spec_to x e.cell.id
      rw [hcx] at hci
      have hI : inv x.cells e = (⟨3, (k : Int), idCell e.cell.id⟩, true) := by
        unfold inv
        rw [if_neg (by rw [hc]; simp), if_neg (by omega), hge]
        simp [he, hcx]
      rw [hI]
      simp only [GEdit.acs_eq, idCell]
      repeat' (first | (with_reducible first | refine awp_seq ?_ | refine awp_block ?_ | refine awp_skip ?_ | refine awp_exit ?_ | refine awp_ret ?_ | refine athen ?_ | refine thenExit ?_ | refine thenRet ?_ | refine blockNormal ?_ | refine blockExit ?_ | refine blockRet ?_ | refine roundExit ?_ | refine roundRet ?_ | refine roundExitR ?_ | refine roundRetR ?_) | ((with_reducible refine blockPass ?_ ?_); rfl) | ((with_reducible refine awp_condT ?_ ?_); rfl) | ((with_reducible refine awp_condF ?_ ?_); rfl) | (with_reducible (refine awp_condS rfl ?_ ?_); all_goals (intro hb; have hb' := hb; (try simp only [pkC] at hb'); first | (exfalso; omega) | skip)) | ((with_reducible refine awp_reg ?_); intro K hK) | ((with_reducible refine hK _ ?_); clear hK K) | (with_reducible refine and_split ?_ ?_) | ((with_reducible refine ct_id ?_); first | (refine callThen hap trivial ?_ ?_) | (refine callThen hci trivial ?_ ?_)) | ((with_reducible refine ctd_id ?_); first | (refine callThenD hap trivial ?_ ?_) | (refine callThenD hci trivial ?_ ?_)) | ((with_reducible refine sw_id ?_); simp (disch := first | decide | omega) only [↓pkS, pkW, pkA, undef, capsOf, ex, St.put, St.ev, kav, gdA, opI, rawI, vbin, srcOf, avsD, acsD, AV.toD, AC.toD, AV.nw, AC.nw, AC.one, Value.oneCell', fillA, D.one, D.ones, D.sz, D.szs, Nat.reduceAdd, Nat.reduceSub, Nat.reduceLeDiff, Nat.reduceEqDiff, reduceIte, pkN, pkE, k1, k2, k3, k4, k5, k6, hcn]) | (first | (with_reducible rfl) | (with_reducible refine fnok_id ?_; kernel_rfl) | exact el_strs _ | exact el_ints _ | exact el_ln _ | exact el_tk _ _ | exact el_td _ _ _ | omega | (simp; done) | (simp; omega)) | ((with_reducible refine args_id ?_); simp [ArgsOk, ArgOk, argsD, argD, AC.toD, Value.oneCell', sl_flat, leaf_flat, li_flat, ls_flat, sl_agg, leaf_agg, li_agg, ls_agg, mo_t, mo_f, pkE, k1, k2, k3, k4, k5, k6, hcn]; first | done | rfl))
      all_goals exact endRet ⟨⟨2, _, rfl, rfl, by simp [AcsFits, AcFits, he]⟩, ⟨_, rfl, rfl, trivial⟩⟩
    · have he : e.kind = 4 := hk0
      have k1 : (e.kind == 1) = false := by rw [he]; rfl
      have k2 : (e.kind == 2) = false := by rw [he]; rfl
      have k3 : (e.kind == 3) = false := by rw [he]; rfl
      have k4 : (e.kind == 4) = true := by rw [he]; rfl
      have k5 : (e.kind == 5) = false := by rw [he]; rfl
      have k6 : (e.kind == 6) = false := by rw [he]; rfl
      rcases hidx with h9 | ⟨k, hk, hcx, hge⟩
      · omega
      have hci := cellIndex_spec_to x e.cell.id
      rw [hcx] at hci
      have hI : inv x.cells e = (⟨4, 0, ⟨e.cell.id, 0, 0, x.cells[k].name, x.cells[k].code, 0⟩⟩, true) := by
        unfold inv
        rw [if_neg (by rw [hc]; simp), if_neg (by omega), hge]
        simp [he, hcx]
      rw [hI]
      simp only [GEdit.acs_eq, idCell]
      repeat' (first | (with_reducible first | refine awp_seq ?_ | refine awp_block ?_ | refine awp_skip ?_ | refine awp_exit ?_ | refine awp_ret ?_ | refine athen ?_ | refine thenExit ?_ | refine thenRet ?_ | refine blockNormal ?_ | refine blockExit ?_ | refine blockRet ?_ | refine roundExit ?_ | refine roundRet ?_ | refine roundExitR ?_ | refine roundRetR ?_) | ((with_reducible refine blockPass ?_ ?_); rfl) | ((with_reducible refine awp_condT ?_ ?_); rfl) | ((with_reducible refine awp_condF ?_ ?_); rfl) | (with_reducible (refine awp_condS rfl ?_ ?_); all_goals (intro hb; have hb' := hb; (try simp only [pkC] at hb'); first | (exfalso; omega) | skip)) | ((with_reducible refine awp_reg ?_); intro K hK) | ((with_reducible refine hK _ ?_); clear hK K) | (with_reducible refine and_split ?_ ?_) | ((with_reducible refine ct_id ?_); first | (refine callThen hap trivial ?_ ?_) | (refine callThen hci trivial ?_ ?_)) | ((with_reducible refine ctd_id ?_); first | (refine callThenD hap trivial ?_ ?_) | (refine callThenD hci trivial ?_ ?_)) | ((with_reducible refine sw_id ?_); simp (disch := first | decide | omega) only [↓pkS, pkW, pkA, undef, capsOf, ex, St.put, St.ev, kav, gdA, opI, rawI, vbin, srcOf, avsD, acsD, AV.toD, AC.toD, AV.nw, AC.nw, AC.one, Value.oneCell', fillA, D.one, D.ones, D.sz, D.szs, Nat.reduceAdd, Nat.reduceSub, Nat.reduceLeDiff, Nat.reduceEqDiff, reduceIte, pkN, pkE, k1, k2, k3, k4, k5, k6, hcn]) | (first | (with_reducible rfl) | (with_reducible refine fnok_id ?_; kernel_rfl) | exact el_strs _ | exact el_ints _ | exact el_ln _ | exact el_tk _ _ | exact el_td _ _ _ | omega | (simp; done) | (simp; omega)) | ((with_reducible refine args_id ?_); simp [ArgsOk, ArgOk, argsD, argD, AC.toD, Value.oneCell', sl_flat, leaf_flat, li_flat, ls_flat, sl_agg, leaf_agg, li_agg, ls_agg, mo_t, mo_f, pkE, k1, k2, k3, k4, k5, k6, hcn]; first | done | rfl))
      all_goals exact endRet ⟨⟨2, _, rfl, rfl, by simp [AcsFits, AcFits, he]⟩, ⟨_, rfl, rfl, trivial⟩⟩
    · have he : e.kind = 5 := hk0
      have k1 : (e.kind == 1) = false := by rw [he]; rfl
      have k2 : (e.kind == 2) = false := by rw [he]; rfl
      have k3 : (e.kind == 3) = false := by rw [he]; rfl
      have k4 : (e.kind == 4) = false := by rw [he]; rfl
      have k5 : (e.kind == 5) = true := by rw [he]; rfl
      have k6 : (e.kind == 6) = false := by rw [he]; rfl
      rcases hidx with h9 | ⟨k, hk, hcx, hge⟩
      · omega
      have hci := cellIndex_spec_to x e.cell.id
      rw [hcx] at hci
      have hI : inv x.cells e = (⟨5, 0, ⟨e.cell.id, 0, 0, ⟨#[]⟩, ⟨#[]⟩, x.cells[k].n⟩⟩, true) := by
        unfold inv
        rw [if_neg (by rw [hc]; simp), if_neg (by omega), hge]
        simp [he, hcx]
      rw [hI]
      simp only [GEdit.acs_eq, idCell]
      repeat' (first | (with_reducible first | refine awp_seq ?_ | refine awp_block ?_ | refine awp_skip ?_ | refine awp_exit ?_ | refine awp_ret ?_ | refine athen ?_ | refine thenExit ?_ | refine thenRet ?_ | refine blockNormal ?_ | refine blockExit ?_ | refine blockRet ?_ | refine roundExit ?_ | refine roundRet ?_ | refine roundExitR ?_ | refine roundRetR ?_) | ((with_reducible refine blockPass ?_ ?_); rfl) | ((with_reducible refine awp_condT ?_ ?_); rfl) | ((with_reducible refine awp_condF ?_ ?_); rfl) | (with_reducible (refine awp_condS rfl ?_ ?_); all_goals (intro hb; have hb' := hb; (try simp only [pkC] at hb'); first | (exfalso; omega) | skip)) | ((with_reducible refine awp_reg ?_); intro K hK) | ((with_reducible refine hK _ ?_); clear hK K) | (with_reducible refine and_split ?_ ?_) | ((with_reducible refine ct_id ?_); first | (refine callThen hap trivial ?_ ?_) | (refine callThen hci trivial ?_ ?_)) | ((with_reducible refine ctd_id ?_); first | (refine callThenD hap trivial ?_ ?_) | (refine callThenD hci trivial ?_ ?_)) | ((with_reducible refine sw_id ?_); simp (disch := first | decide | omega) only [↓pkS, pkW, pkA, undef, capsOf, ex, St.put, St.ev, kav, gdA, opI, rawI, vbin, srcOf, avsD, acsD, AV.toD, AC.toD, AV.nw, AC.nw, AC.one, Value.oneCell', fillA, D.one, D.ones, D.sz, D.szs, Nat.reduceAdd, Nat.reduceSub, Nat.reduceLeDiff, Nat.reduceEqDiff, reduceIte, pkN, pkE, k1, k2, k3, k4, k5, k6, hcn]) | (first | (with_reducible rfl) | (with_reducible refine fnok_id ?_; kernel_rfl) | exact el_strs _ | exact el_ints _ | exact el_ln _ | exact el_tk _ _ | exact el_td _ _ _ | omega | (simp; done) | (simp; omega)) | ((with_reducible refine args_id ?_); simp [ArgsOk, ArgOk, argsD, argD, AC.toD, Value.oneCell', sl_flat, leaf_flat, li_flat, ls_flat, sl_agg, leaf_agg, li_agg, ls_agg, mo_t, mo_f, pkE, k1, k2, k3, k4, k5, k6, hcn]; first | done | rfl))
      all_goals exact endRet ⟨⟨2, _, rfl, rfl, by simp [AcsFits, AcFits, he]⟩, ⟨_, rfl, rfl, trivial⟩⟩
    · have he : e.kind = 6 := hk0
      have k1 : (e.kind == 1) = false := by rw [he]; rfl
      have k2 : (e.kind == 2) = false := by rw [he]; rfl
      have k3 : (e.kind == 3) = false := by rw [he]; rfl
      have k4 : (e.kind == 4) = false := by rw [he]; rfl
      have k5 : (e.kind == 5) = false := by rw [he]; rfl
      have k6 : (e.kind == 6) = true := by rw [he]; rfl
      rcases hidx with h9 | ⟨k, hk, hcx, hge⟩
      · omega
      have hci := cellIndex_spec_to x e.cell.id
      rw [hcx] at hci
      have hI : inv x.cells e = (⟨6, 0, idCell e.cell.id⟩, true) := by
        unfold inv
        rw [if_neg (by rw [hc]; simp), if_neg (by omega), hge]
        simp [he, hcx]
      rw [hI]
      simp only [GEdit.acs_eq, idCell]
      repeat' (first | (with_reducible first | refine awp_seq ?_ | refine awp_block ?_ | refine awp_skip ?_ | refine awp_exit ?_ | refine awp_ret ?_ | refine athen ?_ | refine thenExit ?_ | refine thenRet ?_ | refine blockNormal ?_ | refine blockExit ?_ | refine blockRet ?_ | refine roundExit ?_ | refine roundRet ?_ | refine roundExitR ?_ | refine roundRetR ?_) | ((with_reducible refine blockPass ?_ ?_); rfl) | ((with_reducible refine awp_condT ?_ ?_); rfl) | ((with_reducible refine awp_condF ?_ ?_); rfl) | (with_reducible (refine awp_condS rfl ?_ ?_); all_goals (intro hb; have hb' := hb; (try simp only [pkC] at hb'); first | (exfalso; omega) | skip)) | ((with_reducible refine awp_reg ?_); intro K hK) | ((with_reducible refine hK _ ?_); clear hK K) | (with_reducible refine and_split ?_ ?_) | ((with_reducible refine ct_id ?_); first | (refine callThen hap trivial ?_ ?_) | (refine callThen hci trivial ?_ ?_)) | ((with_reducible refine ctd_id ?_); first | (refine callThenD hap trivial ?_ ?_) | (refine callThenD hci trivial ?_ ?_)) | ((with_reducible refine sw_id ?_); simp (disch := first | decide | omega) only [↓pkS, pkW, pkA, undef, capsOf, ex, St.put, St.ev, kav, gdA, opI, rawI, vbin, srcOf, avsD, acsD, AV.toD, AC.toD, AV.nw, AC.nw, AC.one, Value.oneCell', fillA, D.one, D.ones, D.sz, D.szs, Nat.reduceAdd, Nat.reduceSub, Nat.reduceLeDiff, Nat.reduceEqDiff, reduceIte, pkN, pkE, k1, k2, k3, k4, k5, k6, hcn]) | (first | (with_reducible rfl) | (with_reducible refine fnok_id ?_; kernel_rfl) | exact el_strs _ | exact el_ints _ | exact el_ln _ | exact el_tk _ _ | exact el_td _ _ _ | omega | (simp; done) | (simp; omega)) | ((with_reducible refine args_id ?_); simp [ArgsOk, ArgOk, argsD, argD, AC.toD, Value.oneCell', sl_flat, leaf_flat, li_flat, ls_flat, sl_agg, leaf_agg, li_agg, ls_agg, mo_t, mo_f, pkE, k1, k2, k3, k4, k5, k6, hcn]; first | done | rfl))
      all_goals exact endRet ⟨⟨2, _, rfl, rfl, by simp [AcsFits, AcFits, he]⟩, ⟨_, rfl, rfl, trivial⟩⟩
def ic_inv_impl : IC := (.seq (.reg false [⟨(some 2), none, .box (.t 0)⟩, ⟨(some 3), none, .box (.t 1)⟩, ⟨(some 4), none, .alloc [(.int .i64 0), (.int .i64 0), (.int .i64 0), (.int .i64 0), (.int .i64 0), (.string ⟨#[]⟩), (.string ⟨#[]⟩), (.int .i64 0)]⟩, ⟨(some 5), none, .mov (.k (.bool false))⟩]) (.seq (.seq (.reg false [⟨(some 11), none, .load 1 true (.t 2)⟩, ⟨(some 12), none, .load 8 true (.t 3)⟩, ⟨(some 13), none, .call 11 [(.t 11), (.t 12)]⟩, ⟨(some 10), none, .mov (.t 13)⟩, ⟨(some 14), none, .ext 0 (.t 10)⟩, ⟨(some 15), none, .ext 1 (.t 10)⟩, ⟨(some 6), none, .alloc [(.slice none 0 0)]⟩, ⟨none, none, .store 1 (.t 6) (.t 14)⟩, ⟨(some 7), none, .mov (.t 15)⟩]) (.seq (.reg false [⟨(some 16), none, .mov (.t 7)⟩, ⟨(some 17), none, .bin .neq (.t 16) (.k (.int .i64 0))⟩]) (.cond (.t 17) (.seq (.reg false [⟨(some 18), none, .bld [(.int .i64 0), (.int .i64 0), (.int .i64 0), (.int .i64 0), (.int .i64 0), (.string ⟨#[]⟩), (.string ⟨#[]⟩), (.int .i64 0)] []⟩, ⟨none, none, .store 8 (.t 4) (.t 18)⟩, ⟨(some 5), none, .mov (.k (.bool false))⟩]) .ret) .skip))) (.seq (.reg false [⟨(some 19), none, .load 1 true (.t 2)⟩, ⟨(some 20), none, .fad 2 (.t 3)⟩, ⟨(some 21), none, .fad 0 (.t 20)⟩, ⟨(some 22), none, .load 1 false (.t 21)⟩, ⟨(some 23), none, .call 46 [(.t 19), (.t 22)]⟩, ⟨(some 8), none, .mov (.t 23)⟩]) (.seq (.reg false [⟨(some 24), none, .fad 0 (.t 3)⟩, ⟨(some 25), none, .load 1 false (.t 24)⟩, ⟨(some 26), none, .fad 2 (.t 3)⟩, ⟨(some 27), none, .fad 0 (.t 26)⟩, ⟨(some 28), none, .load 1 false (.t 27)⟩, ⟨(some 29), none, .bld [(.int .i64 0), (.int .i64 0), (.int .i64 0), (.string ⟨#[]⟩), (.string ⟨#[]⟩), (.int .i64 0)] [(0, 1, (.t 28))]⟩, ⟨(some 30), none, .bld [(.int .i64 0), (.int .i64 0), (.int .i64 0), (.int .i64 0), (.int .i64 0), (.string ⟨#[]⟩), (.string ⟨#[]⟩), (.int .i64 0)] [(0, 1, (.t 25)), (2, 6, (.t 29))]⟩, ⟨(some 9), none, .alloc [(.int .i64 0), (.int .i64 0), (.int .i64 0), (.int .i64 0), (.int .i64 0), (.string ⟨#[]⟩), (.string ⟨#[]⟩), (.int .i64 0)]⟩, ⟨none, none, .store 8 (.t 9) (.t 30)⟩]) (.seq (.seq (.reg false [⟨(some 31), none, .fad 0 (.t 3)⟩, ⟨(some 32), none, .load 1 false (.t 31)⟩]) (.block 0 (.seq (.reg false [⟨(some 34), none, .bin .eql (.t 32) (.k (.int .i64 1))⟩, ⟨(some 33), none, .mov (.t 34)⟩]) (.cond (.t 33) (.reg false [⟨(some 35), none, .fad 0 (.t 9)⟩, ⟨none, none, .store 1 (.t 35) (.k (.int .i64 2))⟩]) (.seq (.reg false [⟨(some 37), none, .bin .eql (.t 32) (.k (.int .i64 2))⟩, ⟨(some 36), none, .mov (.t 37)⟩]) (.cond (.t 36) (.reg false [⟨(some 38), none, .mov (.t 8)⟩, ⟨(some 39), none, .fad 0 (.t 2)⟩, ⟨(some 40), none, .load 1 false (.t 39)⟩, ⟨(some 41), none, .mov (.t 8)⟩, ⟨(some 42), none, .iad 6 (.t 40) (.t 41)⟩, ⟨(some 43), none, .load 6 true (.t 42)⟩, ⟨(some 44), none, .bld [(.int .i64 0), (.int .i64 0), (.int .i64 0), (.int .i64 0), (.int .i64 0), (.string ⟨#[]⟩), (.string ⟨#[]⟩), (.int .i64 0)] [(0, 1, (.k (.int .i64 1))), (1, 1, (.t 38)), (2, 6, (.t 43))]⟩, ⟨none, none, .store 8 (.t 9) (.t 44)⟩]) (.seq (.reg false [⟨(some 46), none, .bin .eql (.t 32) (.k (.int .i64 3))⟩, ⟨(some 45), none, .mov (.t 46)⟩]) (.cond (.t 45) (.reg false [⟨(some 47), none, .mov (.t 8)⟩, ⟨(some 48), none, .fad 1 (.t 9)⟩, ⟨none, none, .store 1 (.t 48) (.t 47)⟩]) (.seq (.reg false [⟨(some 50), none, .bin .eql (.t 32) (.k (.int .i64 4))⟩, ⟨(some 49), none, .mov (.t 50)⟩]) (.cond (.t 49) (.seq (.reg false [⟨(some 51), none, .fad 0 (.t 2)⟩, ⟨(some 52), none, .load 1 false (.t 51)⟩, ⟨(some 53), none, .mov (.t 8)⟩, ⟨(some 54), none, .iad 6 (.t 52) (.t 53)⟩, ⟨(some 55), none, .fad 3 (.t 54)⟩, ⟨(some 56), none, .load 1 false (.t 55)⟩, ⟨(some 57), none, .fad 2 (.t 9)⟩, ⟨(some 58), none, .fad 3 (.t 57)⟩, ⟨none, none, .store 1 (.t 58) (.t 56)⟩]) (.reg false [⟨(some 59), none, .fad 0 (.t 2)⟩, ⟨(some 60), none, .load 1 false (.t 59)⟩, ⟨(some 61), none, .mov (.t 8)⟩, ⟨(some 62), none, .iad 6 (.t 60) (.t 61)⟩, ⟨(some 63), none, .fad 4 (.t 62)⟩, ⟨(some 64), none, .load 1 false (.t 63)⟩, ⟨(some 65), none, .fad 2 (.t 9)⟩, ⟨(some 66), none, .fad 4 (.t 65)⟩, ⟨none, none, .store 1 (.t 66) (.t 64)⟩])) (.seq (.reg false [⟨(some 68), none, .bin .eql (.t 32) (.k (.int .i64 5))⟩, ⟨(some 67), none, .mov (.t 68)⟩]) (.cond (.t 67) (.reg false [⟨(some 69), none, .fad 0 (.t 2)⟩, ⟨(some 70), none, .load 1 false (.t 69)⟩, ⟨(some 71), none, .mov (.t 8)⟩, ⟨(some 72), none, .iad 6 (.t 70) (.t 71)⟩, ⟨(some 73), none, .fad 5 (.t 72)⟩, ⟨(some 74), none, .load 1 false (.t 73)⟩, ⟨(some 75), none, .fad 2 (.t 9)⟩, ⟨(some 76), none, .fad 5 (.t 75)⟩, ⟨none, none, .store 1 (.t 76) (.t 74)⟩]) .skip)))))))))))) (.seq (.reg false [⟨(some 77), none, .load 8 true (.t 9)⟩, ⟨none, none, .store 8 (.t 4) (.t 77)⟩, ⟨(some 5), none, .mov (.k (.bool true))⟩]) .ret))))))
theorem ic_inv_impl_ok : compC Try.prog (Try.f16.body.getD .skip) = some ic_inv_impl := by kernel_rfl
set_option maxHeartbeats 16000000 in
theorem inverse_impl_to (x : GNb) (e : GEdit) (hn : x.cells.length ≤ 1048576) (hwl : D.wfs (x.cells.map GCell.toD)) (hew : e.toD.wf) : CallsTo Try.prog 16 [x.toD, e.toD] (.tup [(true, (inv x.cells e).1.toD.acs true), (false, [.raw (.bool (inv x.cells e).2)])]) := by
  refine calls_two (fn := Try.f16) (r := .cell 4 39) (q := .tmp 5) (by kernel_rfl) (by kernel_rfl) (by kernel_rfl) (by rw [GEdit.acs_eq]; kernel_rfl) ic_inv_impl_ok ?_
  have hap := apply_impl_to x e hn hwl hew
  change AWP _ _ _ (st0 78 _)
  unfold ic_inv_impl
  cases hc : ((app x.cells e).2 != 0) with
  | true =>
    have hI : inv x.cells e = (⟨0, 0, idCell 0⟩, false) := by unfold inv; rw [if_pos hc]
    rw [hI]
    simp only [undef, stS, st0, stN, D.av, D.avN, sl_agg, leaf_agg, li_agg, ls_agg, sl_acs, leaf_acs, li_acs, ls_acs, GNb.acs_eq, GNb.flat_eq, GNb.agg_eq, GCell.acs_eq, GCell.flat_eq, GCell.agg_eq, GCell.el, GEdit.acs_eq, GEdit.flat_eq, GEdit.agg_eq, GEdit.el, List.map_cons, List.map_nil, List.replicate, List.cons_append, List.nil_append, List.length_cons, List.length_nil, Nat.reduceAdd, Nat.reduceSub]
    simp only [idCell]
    repeat' (first | (with_reducible first | refine awp_seq ?_ | refine awp_block ?_ | refine awp_skip ?_ | refine awp_exit ?_ | refine awp_ret ?_ | refine athen ?_ | refine thenExit ?_ | refine thenRet ?_ | refine blockNormal ?_ | refine blockExit ?_ | refine blockRet ?_ | refine roundExit ?_ | refine roundRet ?_ | refine roundExitR ?_ | refine roundRetR ?_) | ((with_reducible refine blockPass ?_ ?_); rfl) | ((with_reducible refine awp_condT ?_ ?_); rfl) | ((with_reducible refine awp_condF ?_ ?_); rfl) | (with_reducible (refine awp_condS rfl ?_ ?_); all_goals (intro hb; have hb' := hb; (try simp only [pkC] at hb'); first | (exfalso; omega) | skip)) | ((with_reducible refine awp_reg ?_); intro K hK) | ((with_reducible refine hK _ ?_); clear hK K) | (with_reducible refine and_split ?_ ?_) | ((with_reducible refine ct_id ?_); first | (refine callThen hap trivial ?_ ?_)) | ((with_reducible refine ctd_id ?_); first | (refine callThenD hap trivial ?_ ?_)) | ((with_reducible refine sw_id ?_); simp (disch := first | decide | omega) only [↓pkS, pkW, pkA, undef, capsOf, ex, St.put, St.ev, kav, gdA, opI, rawI, vbin, srcOf, avsD, acsD, AV.toD, AC.toD, AV.nw, AC.nw, AC.one, Value.oneCell', fillA, D.one, D.ones, D.sz, D.szs, Nat.reduceAdd, Nat.reduceSub, Nat.reduceLeDiff, Nat.reduceEqDiff, reduceIte, pkN, pkE, hc]) | (first | (with_reducible rfl) | (with_reducible refine fnok_id ?_; kernel_rfl) | exact el_strs _ | exact el_ints _ | exact el_ln _ | exact el_tk _ _ | exact el_td _ _ _ | omega | (simp; done) | (simp; omega)) | ((with_reducible refine args_id ?_); simp [ArgsOk, ArgOk, argsD, argD, AC.toD, Value.oneCell', sl_flat, leaf_flat, li_flat, ls_flat, sl_agg, leaf_agg, li_agg, ls_agg, mo_t, mo_f, pkE, hc]; first | done | rfl))
    all_goals exact endRet ⟨⟨2, _, rfl, rfl, by simp [AcsFits, AcFits]⟩, ⟨_, rfl, rfl, trivial⟩⟩
  | false =>
    have hcn := hc
    have hc : (app x.cells e).2 = 0 := by simpa using hc
    obtain ⟨hval, hin, hidx⟩ := app_ok hc
    simp only [undef, stS, st0, stN, D.av, D.avN, sl_agg, leaf_agg, li_agg, ls_agg, sl_acs, leaf_acs, li_acs, ls_acs, GNb.acs_eq, GNb.flat_eq, GNb.agg_eq, GCell.acs_eq, GCell.flat_eq, GCell.agg_eq, GCell.el, GEdit.acs_eq, GEdit.flat_eq, GEdit.agg_eq, GEdit.el, List.map_cons, List.map_nil, List.replicate, List.cons_append, List.nil_append, List.length_cons, List.length_nil, Nat.reduceAdd, Nat.reduceSub]
    rcases inR_16 hin with hk0 | hk0 | hk0 | hk0 | hk0 | hk0
    · have he : e.kind = 1 := hk0
      have k1 : (e.kind == 1) = true := by rw [he]; rfl
      have k2 : (e.kind == 2) = false := by rw [he]; rfl
      have k3 : (e.kind == 3) = false := by rw [he]; rfl
      have k4 : (e.kind == 4) = false := by rw [he]; rfl
      have k5 : (e.kind == 5) = false := by rw [he]; rfl
      have k6 : (e.kind == 6) = false := by rw [he]; rfl
      have hci := cellIndex_impl_to x e.cell.id
      have hI : inv x.cells e = (⟨2, 0, idCell e.cell.id⟩, true) := by unfold inv; rw [if_neg (by rw [hc]; simp), if_pos he]
      rw [hI]
      simp only [GEdit.acs_eq, idCell]
      repeat' (first | (with_reducible first | refine awp_seq ?_ | refine awp_block ?_ | refine awp_skip ?_ | refine awp_exit ?_ | refine awp_ret ?_ | refine athen ?_ | refine thenExit ?_ | refine thenRet ?_ | refine blockNormal ?_ | refine blockExit ?_ | refine blockRet ?_ | refine roundExit ?_ | refine roundRet ?_ | refine roundExitR ?_ | refine roundRetR ?_) | ((with_reducible refine blockPass ?_ ?_); rfl) | ((with_reducible refine awp_condT ?_ ?_); rfl) | ((with_reducible refine awp_condF ?_ ?_); rfl) | (with_reducible (refine awp_condS rfl ?_ ?_); all_goals (intro hb; have hb' := hb; (try simp only [pkC] at hb'); first | (exfalso; omega) | skip)) | ((with_reducible refine awp_reg ?_); intro K hK) | ((with_reducible refine hK _ ?_); clear hK K) | (with_reducible refine and_split ?_ ?_) | ((with_reducible refine ct_id ?_); first | (refine callThen hap trivial ?_ ?_) | (refine callThen hci trivial ?_ ?_)) | ((with_reducible refine ctd_id ?_); first | (refine callThenD hap trivial ?_ ?_) | (refine callThenD hci trivial ?_ ?_)) | ((with_reducible refine sw_id ?_); simp (disch := first | decide | omega) only [↓pkS, pkW, pkA, undef, capsOf, ex, St.put, St.ev, kav, gdA, opI, rawI, vbin, srcOf, avsD, acsD, AV.toD, AC.toD, AV.nw, AC.nw, AC.one, Value.oneCell', fillA, D.one, D.ones, D.sz, D.szs, Nat.reduceAdd, Nat.reduceSub, Nat.reduceLeDiff, Nat.reduceEqDiff, reduceIte, pkN, pkE, k1, k2, k3, k4, k5, k6, hcn]) | (first | (with_reducible rfl) | (with_reducible refine fnok_id ?_; kernel_rfl) | exact el_strs _ | exact el_ints _ | exact el_ln _ | exact el_tk _ _ | exact el_td _ _ _ | omega | (simp; done) | (simp; omega)) | ((with_reducible refine args_id ?_); simp [ArgsOk, ArgOk, argsD, argD, AC.toD, Value.oneCell', sl_flat, leaf_flat, li_flat, ls_flat, sl_agg, leaf_agg, li_agg, ls_agg, mo_t, mo_f, pkE, k1, k2, k3, k4, k5, k6, hcn]; first | done | rfl))
      all_goals exact endRet ⟨⟨2, _, rfl, rfl, by simp [AcsFits, AcFits, he]⟩, ⟨_, rfl, rfl, trivial⟩⟩
    · have he : e.kind = 2 := hk0
      have k1 : (e.kind == 1) = false := by rw [he]; rfl
      have k2 : (e.kind == 2) = true := by rw [he]; rfl
      have k3 : (e.kind == 3) = false := by rw [he]; rfl
      have k4 : (e.kind == 4) = false := by rw [he]; rfl
      have k5 : (e.kind == 5) = false := by rw [he]; rfl
      have k6 : (e.kind == 6) = false := by rw [he]; rfl
      rcases hidx with h9 | ⟨k, hk, hcx, hge⟩
      · omega
      have hci := cellIndex_impl_to x e.cell.id
      rw [hcx] at hci
      have hI : inv x.cells e = (⟨1, (k : Int), x.cells[k]⟩, true) := by
        unfold inv
        rw [if_neg (by rw [hc]; simp), if_neg (by omega), hge]
        simp [he, hcx]
      rw [hI]
      simp only [GEdit.acs_eq, idCell]
      repeat' (first | (with_reducible first | refine awp_seq ?_ | refine awp_block ?_ | refine awp_skip ?_ | refine awp_exit ?_ | refine awp_ret ?_ | refine athen ?_ | refine thenExit ?_ | refine thenRet ?_ | refine blockNormal ?_ | refine blockExit ?_ | refine blockRet ?_ | refine roundExit ?_ | refine roundRet ?_ | refine roundExitR ?_ | refine roundRetR ?_) | ((with_reducible refine blockPass ?_ ?_); rfl) | ((with_reducible refine awp_condT ?_ ?_); rfl) | ((with_reducible refine awp_condF ?_ ?_); rfl) | (with_reducible (refine awp_condS rfl ?_ ?_); all_goals (intro hb; have hb' := hb; (try simp only [pkC] at hb'); first | (exfalso; omega) | skip)) | ((with_reducible refine awp_reg ?_); intro K hK) | ((with_reducible refine hK _ ?_); clear hK K) | (with_reducible refine and_split ?_ ?_) | ((with_reducible refine ct_id ?_); first | (refine callThen hap trivial ?_ ?_) | (refine callThen hci trivial ?_ ?_)) | ((with_reducible refine ctd_id ?_); first | (refine callThenD hap trivial ?_ ?_) | (refine callThenD hci trivial ?_ ?_)) | ((with_reducible refine sw_id ?_); simp (disch := first | decide | omega) only [↓pkS, pkW, pkA, undef, capsOf, ex, St.put, St.ev, kav, gdA, opI, rawI, vbin, srcOf, avsD, acsD, AV.toD, AC.toD, AV.nw, AC.nw, AC.one, Value.oneCell', fillA, D.one, D.ones, D.sz, D.szs, Nat.reduceAdd, Nat.reduceSub, Nat.reduceLeDiff, Nat.reduceEqDiff, reduceIte, pkN, pkE, k1, k2, k3, k4, k5, k6, hcn]) | (first | (with_reducible rfl) | (with_reducible refine fnok_id ?_; kernel_rfl) | exact el_strs _ | exact el_ints _ | exact el_ln _ | exact el_tk _ _ | exact el_td _ _ _ | omega | (simp; done) | (simp; omega)) | ((with_reducible refine args_id ?_); simp [ArgsOk, ArgOk, argsD, argD, AC.toD, Value.oneCell', sl_flat, leaf_flat, li_flat, ls_flat, sl_agg, leaf_agg, li_agg, ls_agg, mo_t, mo_f, pkE, k1, k2, k3, k4, k5, k6, hcn]; first | done | rfl))
      all_goals exact endRet ⟨⟨2, _, rfl, rfl, by simp [AcsFits, AcFits, he]⟩, ⟨_, rfl, rfl, trivial⟩⟩
    · have he : e.kind = 3 := hk0
      have k1 : (e.kind == 1) = false := by rw [he]; rfl
      have k2 : (e.kind == 2) = false := by rw [he]; rfl
      have k3 : (e.kind == 3) = true := by rw [he]; rfl
      have k4 : (e.kind == 4) = false := by rw [he]; rfl
      have k5 : (e.kind == 5) = false := by rw [he]; rfl
      have k6 : (e.kind == 6) = false := by rw [he]; rfl
      rcases hidx with h9 | ⟨k, hk, hcx, hge⟩
      · omega
      have hci := cellIndex_impl_to x e.cell.id
      rw [hcx] at hci
      have hI : inv x.cells e = (⟨3, (k : Int), idCell e.cell.id⟩, true) := by
        unfold inv
        rw [if_neg (by rw [hc]; simp), if_neg (by omega), hge]
        simp [he, hcx]
      rw [hI]
      simp only [GEdit.acs_eq, idCell]
      repeat' (first | (with_reducible first | refine awp_seq ?_ | refine awp_block ?_ | refine awp_skip ?_ | refine awp_exit ?_ | refine awp_ret ?_ | refine athen ?_ | refine thenExit ?_ | refine thenRet ?_ | refine blockNormal ?_ | refine blockExit ?_ | refine blockRet ?_ | refine roundExit ?_ | refine roundRet ?_ | refine roundExitR ?_ | refine roundRetR ?_) | ((with_reducible refine blockPass ?_ ?_); rfl) | ((with_reducible refine awp_condT ?_ ?_); rfl) | ((with_reducible refine awp_condF ?_ ?_); rfl) | (with_reducible (refine awp_condS rfl ?_ ?_); all_goals (intro hb; have hb' := hb; (try simp only [pkC] at hb'); first | (exfalso; omega) | skip)) | ((with_reducible refine awp_reg ?_); intro K hK) | ((with_reducible refine hK _ ?_); clear hK K) | (with_reducible refine and_split ?_ ?_) | ((with_reducible refine ct_id ?_); first | (refine callThen hap trivial ?_ ?_) | (refine callThen hci trivial ?_ ?_)) | ((with_reducible refine ctd_id ?_); first | (refine callThenD hap trivial ?_ ?_) | (refine callThenD hci trivial ?_ ?_)) | ((with_reducible refine sw_id ?_); simp (disch := first | decide | omega) only [↓pkS, pkW, pkA, undef, capsOf, ex, St.put, St.ev, kav, gdA, opI, rawI, vbin, srcOf, avsD, acsD, AV.toD, AC.toD, AV.nw, AC.nw, AC.one, Value.oneCell', fillA, D.one, D.ones, D.sz, D.szs, Nat.reduceAdd, Nat.reduceSub, Nat.reduceLeDiff, Nat.reduceEqDiff, reduceIte, pkN, pkE, k1, k2, k3, k4, k5, k6, hcn]) | (first | (with_reducible rfl) | (with_reducible refine fnok_id ?_; kernel_rfl) | exact el_strs _ | exact el_ints _ | exact el_ln _ | exact el_tk _ _ | exact el_td _ _ _ | omega | (simp; done) | (simp; omega)) | ((with_reducible refine args_id ?_); simp [ArgsOk, ArgOk, argsD, argD, AC.toD, Value.oneCell', sl_flat, leaf_flat, li_flat, ls_flat, sl_agg, leaf_agg, li_agg, ls_agg, mo_t, mo_f, pkE, k1, k2, k3, k4, k5, k6, hcn]; first | done | rfl))
      all_goals exact endRet ⟨⟨2, _, rfl, rfl, by simp [AcsFits, AcFits, he]⟩, ⟨_, rfl, rfl, trivial⟩⟩
    · have he : e.kind = 4 := hk0
      have k1 : (e.kind == 1) = false := by rw [he]; rfl
      have k2 : (e.kind == 2) = false := by rw [he]; rfl
      have k3 : (e.kind == 3) = false := by rw [he]; rfl
      have k4 : (e.kind == 4) = true := by rw [he]; rfl
      have k5 : (e.kind == 5) = false := by rw [he]; rfl
      have k6 : (e.kind == 6) = false := by rw [he]; rfl
      rcases hidx with h9 | ⟨k, hk, hcx, hge⟩
      · omega
      have hci := cellIndex_impl_to x e.cell.id
      rw [hcx] at hci
      have hI : inv x.cells e = (⟨4, 0, ⟨e.cell.id, 0, 0, x.cells[k].name, x.cells[k].code, 0⟩⟩, true) := by
        unfold inv
        rw [if_neg (by rw [hc]; simp), if_neg (by omega), hge]
        simp [he, hcx]
      rw [hI]
      simp only [GEdit.acs_eq, idCell]
      repeat' (first | (with_reducible first | refine awp_seq ?_ | refine awp_block ?_ | refine awp_skip ?_ | refine awp_exit ?_ | refine awp_ret ?_ | refine athen ?_ | refine thenExit ?_ | refine thenRet ?_ | refine blockNormal ?_ | refine blockExit ?_ | refine blockRet ?_ | refine roundExit ?_ | refine roundRet ?_ | refine roundExitR ?_ | refine roundRetR ?_) | ((with_reducible refine blockPass ?_ ?_); rfl) | ((with_reducible refine awp_condT ?_ ?_); rfl) | ((with_reducible refine awp_condF ?_ ?_); rfl) | (with_reducible (refine awp_condS rfl ?_ ?_); all_goals (intro hb; have hb' := hb; (try simp only [pkC] at hb'); first | (exfalso; omega) | skip)) | ((with_reducible refine awp_reg ?_); intro K hK) | ((with_reducible refine hK _ ?_); clear hK K) | (with_reducible refine and_split ?_ ?_) | ((with_reducible refine ct_id ?_); first | (refine callThen hap trivial ?_ ?_) | (refine callThen hci trivial ?_ ?_)) | ((with_reducible refine ctd_id ?_); first | (refine callThenD hap trivial ?_ ?_) | (refine callThenD hci trivial ?_ ?_)) | ((with_reducible refine sw_id ?_); simp (disch := first | decide | omega) only [↓pkS, pkW, pkA, undef, capsOf, ex, St.put, St.ev, kav, gdA, opI, rawI, vbin, srcOf, avsD, acsD, AV.toD, AC.toD, AV.nw, AC.nw, AC.one, Value.oneCell', fillA, D.one, D.ones, D.sz, D.szs, Nat.reduceAdd, Nat.reduceSub, Nat.reduceLeDiff, Nat.reduceEqDiff, reduceIte, pkN, pkE, k1, k2, k3, k4, k5, k6, hcn]) | (first | (with_reducible rfl) | (with_reducible refine fnok_id ?_; kernel_rfl) | exact el_strs _ | exact el_ints _ | exact el_ln _ | exact el_tk _ _ | exact el_td _ _ _ | omega | (simp; done) | (simp; omega)) | ((with_reducible refine args_id ?_); simp [ArgsOk, ArgOk, argsD, argD, AC.toD, Value.oneCell', sl_flat, leaf_flat, li_flat, ls_flat, sl_agg, leaf_agg, li_agg, ls_agg, mo_t, mo_f, pkE, k1, k2, k3, k4, k5, k6, hcn]; first | done | rfl))
      all_goals exact endRet ⟨⟨2, _, rfl, rfl, by simp [AcsFits, AcFits, he]⟩, ⟨_, rfl, rfl, trivial⟩⟩
    · have he : e.kind = 5 := hk0
      have k1 : (e.kind == 1) = false := by rw [he]; rfl
      have k2 : (e.kind == 2) = false := by rw [he]; rfl
      have k3 : (e.kind == 3) = false := by rw [he]; rfl
      have k4 : (e.kind == 4) = false := by rw [he]; rfl
      have k5 : (e.kind == 5) = true := by rw [he]; rfl
      have k6 : (e.kind == 6) = false := by rw [he]; rfl
      rcases hidx with h9 | ⟨k, hk, hcx, hge⟩
      · omega
      have hci := cellIndex_impl_to x e.cell.id
      rw [hcx] at hci
      have hI : inv x.cells e = (⟨5, 0, ⟨e.cell.id, 0, 0, ⟨#[]⟩, ⟨#[]⟩, x.cells[k].n⟩⟩, true) := by
        unfold inv
        rw [if_neg (by rw [hc]; simp), if_neg (by omega), hge]
        simp [he, hcx]
      rw [hI]
      simp only [GEdit.acs_eq, idCell]
      repeat' (first | (with_reducible first | refine awp_seq ?_ | refine awp_block ?_ | refine awp_skip ?_ | refine awp_exit ?_ | refine awp_ret ?_ | refine athen ?_ | refine thenExit ?_ | refine thenRet ?_ | refine blockNormal ?_ | refine blockExit ?_ | refine blockRet ?_ | refine roundExit ?_ | refine roundRet ?_ | refine roundExitR ?_ | refine roundRetR ?_) | ((with_reducible refine blockPass ?_ ?_); rfl) | ((with_reducible refine awp_condT ?_ ?_); rfl) | ((with_reducible refine awp_condF ?_ ?_); rfl) | (with_reducible (refine awp_condS rfl ?_ ?_); all_goals (intro hb; have hb' := hb; (try simp only [pkC] at hb'); first | (exfalso; omega) | skip)) | ((with_reducible refine awp_reg ?_); intro K hK) | ((with_reducible refine hK _ ?_); clear hK K) | (with_reducible refine and_split ?_ ?_) | ((with_reducible refine ct_id ?_); first | (refine callThen hap trivial ?_ ?_) | (refine callThen hci trivial ?_ ?_)) | ((with_reducible refine ctd_id ?_); first | (refine callThenD hap trivial ?_ ?_) | (refine callThenD hci trivial ?_ ?_)) | ((with_reducible refine sw_id ?_); simp (disch := first | decide | omega) only [↓pkS, pkW, pkA, undef, capsOf, ex, St.put, St.ev, kav, gdA, opI, rawI, vbin, srcOf, avsD, acsD, AV.toD, AC.toD, AV.nw, AC.nw, AC.one, Value.oneCell', fillA, D.one, D.ones, D.sz, D.szs, Nat.reduceAdd, Nat.reduceSub, Nat.reduceLeDiff, Nat.reduceEqDiff, reduceIte, pkN, pkE, k1, k2, k3, k4, k5, k6, hcn]) | (first | (with_reducible rfl) | (with_reducible refine fnok_id ?_; kernel_rfl) | exact el_strs _ | exact el_ints _ | exact el_ln _ | exact el_tk _ _ | exact el_td _ _ _ | omega | (simp; done) | (simp; omega)) | ((with_reducible refine args_id ?_); simp [ArgsOk, ArgOk, argsD, argD, AC.toD, Value.oneCell', sl_flat, leaf_flat, li_flat, ls_flat, sl_agg, leaf_agg, li_agg, ls_agg, mo_t, mo_f, pkE, k1, k2, k3, k4, k5, k6, hcn]; first | done | rfl))
      all_goals exact endRet ⟨⟨2, _, rfl, rfl, by simp [AcsFits, AcFits, he]⟩, ⟨_, rfl, rfl, trivial⟩⟩
    · have he : e.kind = 6 := hk0
      have k1 : (e.kind == 1) = false := by rw [he]; rfl
      have k2 : (e.kind == 2) = false := by rw [he]; rfl
      have k3 : (e.kind == 3) = false := by rw [he]; rfl
      have k4 : (e.kind == 4) = false := by rw [he]; rfl
      have k5 : (e.kind == 5) = false := by rw [he]; rfl
      have k6 : (e.kind == 6) = true := by rw [he]; rfl
      rcases hidx with h9 | ⟨k, hk, hcx, hge⟩
      · omega
      have hci := cellIndex_impl_to x e.cell.id
      rw [hcx] at hci
      have hI : inv x.cells e = (⟨6, 0, idCell e.cell.id⟩, true) := by
        unfold inv
        rw [if_neg (by rw [hc]; simp), if_neg (by omega), hge]
        simp [he, hcx]
      rw [hI]
      simp only [GEdit.acs_eq, idCell]
      repeat' (first | (with_reducible first | refine awp_seq ?_ | refine awp_block ?_ | refine awp_skip ?_ | refine awp_exit ?_ | refine awp_ret ?_ | refine athen ?_ | refine thenExit ?_ | refine thenRet ?_ | refine blockNormal ?_ | refine blockExit ?_ | refine blockRet ?_ | refine roundExit ?_ | refine roundRet ?_ | refine roundExitR ?_ | refine roundRetR ?_) | ((with_reducible refine blockPass ?_ ?_); rfl) | ((with_reducible refine awp_condT ?_ ?_); rfl) | ((with_reducible refine awp_condF ?_ ?_); rfl) | (with_reducible (refine awp_condS rfl ?_ ?_); all_goals (intro hb; have hb' := hb; (try simp only [pkC] at hb'); first | (exfalso; omega) | skip)) | ((with_reducible refine awp_reg ?_); intro K hK) | ((with_reducible refine hK _ ?_); clear hK K) | (with_reducible refine and_split ?_ ?_) | ((with_reducible refine ct_id ?_); first | (refine callThen hap trivial ?_ ?_) | (refine callThen hci trivial ?_ ?_)) | ((with_reducible refine ctd_id ?_); first | (refine callThenD hap trivial ?_ ?_) | (refine callThenD hci trivial ?_ ?_)) | ((with_reducible refine sw_id ?_); simp (disch := first | decide | omega) only [↓pkS, pkW, pkA, undef, capsOf, ex, St.put, St.ev, kav, gdA, opI, rawI, vbin, srcOf, avsD, acsD, AV.toD, AC.toD, AV.nw, AC.nw, AC.one, Value.oneCell', fillA, D.one, D.ones, D.sz, D.szs, Nat.reduceAdd, Nat.reduceSub, Nat.reduceLeDiff, Nat.reduceEqDiff, reduceIte, pkN, pkE, k1, k2, k3, k4, k5, k6, hcn]) | (first | (with_reducible rfl) | (with_reducible refine fnok_id ?_; kernel_rfl) | exact el_strs _ | exact el_ints _ | exact el_ln _ | exact el_tk _ _ | exact el_td _ _ _ | omega | (simp; done) | (simp; omega)) | ((with_reducible refine args_id ?_); simp [ArgsOk, ArgOk, argsD, argD, AC.toD, Value.oneCell', sl_flat, leaf_flat, li_flat, ls_flat, sl_agg, leaf_agg, li_agg, ls_agg, mo_t, mo_f, pkE, k1, k2, k3, k4, k5, k6, hcn]; first | done | rfl))
      all_goals exact endRet ⟨⟨2, _, rfl, rfl, by simp [AcsFits, AcFits, he]⟩, ⟨_, rfl, rfl, trivial⟩⟩
theorem inv_law {P : Program} {f : Nat} (x : GNb) (e : GEdit) (h : CallsTo P f [x.toD, e.toD] (.tup [(true, (inv x.cells e).1.toD.acs true), (false, [.raw (.bool (inv x.cells e).2)])])) (fp fe : List Nat) (cs ce : List Value) (w : World) (hx : R w x.toD fp cs) (he : R w e.toD fe ce) :
    Calls P f #[.agg cs.toArray, .agg ce.toArray] w (PairPostW (inv x.cells e).1.toD (.bool (inv x.cells e).2) w) :=
  pairW (vs := [.agg cs.toArray, .agg ce.toArray]) h ⟨rd_of_agg x.agg_eq hx, rd_of_agg e.agg_eq he, trivial⟩
theorem inverse_spec_law (x : GNb) (e : GEdit) (fp fe : List Nat) (cs ce : List Value) (w : World) (hx : R w x.toD fp cs) (he : R w e.toD fe ce) (hn : x.cells.length ≤ 1048576) (hwl : D.wfs (x.cells.map GCell.toD)) (hew : e.toD.wf) : Calls Try.prog 15 #[.agg cs.toArray, .agg ce.toArray] w (PairPostW (inv x.cells e).1.toD (.bool (inv x.cells e).2) w) := inv_law x e (inverse_spec_to x e hn hwl hew) fp fe cs ce w hx he
theorem inverse_impl_law (x : GNb) (e : GEdit) (fp fe : List Nat) (cs ce : List Value) (w : World) (hx : R w x.toD fp cs) (he : R w e.toD fe ce) (hn : x.cells.length ≤ 1048576) (hwl : D.wfs (x.cells.map GCell.toD)) (hew : e.toD.wf) : Calls Try.prog 16 #[.agg cs.toArray, .agg ce.toArray] w (PairPostW (inv x.cells e).1.toD (.bool (inv x.cells e).2) w) := inv_law x e (inverse_impl_to x e hn hwl hew) fp fe cs ce w hx he
end Go.Proofs.Ytokplliaejbbdaa
