/-
  Notebooks as text: both packages.
-/
import Derived.Test.YtdjcflnemnknaaaDoorFmt
namespace Go.Proofs.YtdjcflnemnknaaaDoor
open Go.RowKit
set_option linter.unusedSimpArgs false
set_option linter.unusedVariables false
theorem nb_leaf' {w : World} {x : GNb} {v : Value} (h : Rd w x.toD v) : ∃ fp a, v = .agg #[a] ∧ Sl w (x.cells.map GCell.toD) fp a ∧ R w x.toD fp [a] := by
  obtain ⟨fp, cs, rfl, h2⟩ := rd_agg x.agg_eq h
  obtain ⟨u, f, rfl, rfl, h1⟩ := GNb.opened.1 h2
  exact ⟨_, u, rfl, h1, h2⟩
theorem validNb_impl_to (x : GNb) (hw : D.wfs (x.cells.map GCell.toD)) : CallsTo Tryd.prog 40 [x.toD] (.c false [.raw (.bool (validNb x.cells))]) := to_retB fun w vs hr => by
  obtain ⟨v, rfl, h1⟩ := rds1 hr
  obtain ⟨fp, a, rfl, hS, _⟩ := nb_leaf' h1
  exact isValidNotebook_impl x.cells fp a w hS hw
theorem validNb_spec_to (x : GNb) (hw : D.wfs (x.cells.map GCell.toD)) : CallsTo Tryd.prog 38 [x.toD] (.c false [.raw (.bool (validNb x.cells))]) := to_retB fun w vs hr => by
  obtain ⟨v, rfl, h1⟩ := rds1 hr
  obtain ⟨fp, a, rfl, hS, _⟩ := nb_leaf' h1
  exact isValidNotebook_spec x.cells fp a w hS hw
def nlB : ByteArray := ⟨#[10]⟩
/-- The texts of the first k cells, a line each. -/
def fmtK (l : List GCell) : Nat → ByteArray
  | 0 => ⟨#[]⟩
  | k + 1 => (match l[k]? with | some x => fmtK l k ++ fmtCell x ++ nlB | none => fmtK l k)
/-- The text of a notebook. -/
def fmtNb (l : List GCell) : ByteArray := if validNb l = true then fmtK l l.length else ⟨#[]⟩
def smallC (x : GCell) : Prop := x.code.size ≤ 1048576 ∧ x.name.size ≤ 1048576
theorem fmtCell_len {x : GCell} (h : smallC x) : (fmtCell x).size ≤ 1073741824 := by
  unfold fmtCell
  split
  · next hv =>
    have := joinW_len hv h.1 h.2
    simpa [joinB, ByteArray.size] using this
  · decide
theorem fmtK_step {l : List GCell} {k : Nat} (h : k < l.length) : fmtK l (k + 1) = fmtK l k ++ fmtCell l[k] ++ nlB := by
  simp [fmtK, h]
theorem fmtK_len {l : List GCell} (hs : ∀ x ∈ l, smallC x) : ∀ k, (fmtK l k).size ≤ k * 1073741825
  | 0 => by simp [fmtK, ByteArray.size]
  | k + 1 => by
    have ih := fmtK_len hs k
    by_cases h : k < l.length
    · rw [fmtK_step h, ByteArray.size_append, ByteArray.size_append]
      have := fmtCell_len (hs _ (List.getElem_mem h))
      have e : nlB.size = 1 := rfl
      rw [e, Nat.succ_mul]
      have h3 := Nat.add_le_add ih this
      exact Nat.le_trans (Nat.add_le_add_right h3 1) (Nat.le_of_eq (Nat.add_assoc _ _ _))
    · simp only [fmtK]
      rw [List.getElem?_eq_none (by omega)]
      exact Nat.le_trans ih (Nat.mul_le_mul_right _ (Nat.le_succ k))
theorem validNb_len {l : List GCell} (h : validNb l = true) : l.length ≤ 8 := by
  unfold validNb at h
  simp only [Bool.and_eq_true, decide_eq_true_eq] at h
  omega
theorem smallC_of : ∀ {l : List GCell}, D.wts (l.map GCell.toD) ≤ 1048576 → ∀ c ∈ l, smallC c
  | [], _, c, hc => by simp at hc
  | x :: l, h, c, hc => by
    rw [List.map_cons, D.wts] at h
    rcases List.mem_cons.1 hc with rfl | hc
    · simp [GCell.toD_eq, D.wt, D.wts, ls, li, leafWt] at h
      exact ⟨by omega, by omega⟩
    · exact smallC_of (by omega) c hc
def ic_fn_spec : IC := (.seq (.reg false [⟨(some 1), none, .box (.t 0)⟩, ⟨(some 2), none, .mov (.k (.string ⟨#[]⟩))⟩]) (.seq (.seq (.reg false [⟨(some 5), none, .load 1 true (.t 1)⟩, ⟨(some 6), none, .call 38 [(.t 5)]⟩, ⟨(some 7), none, .not (.t 6)⟩]) (.cond (.t 7) (.seq (.reg false [⟨(some 2), none, .mov (.k (.string ⟨#[]⟩))⟩]) .ret) .skip)) (.seq (.reg false [⟨(some 3), none, .mov (.k (.string ⟨#[]⟩))⟩]) (.seq (.seq (.reg false [⟨(some 4), none, .mov (.k (.int .i64 0))⟩]) (.block 0 (.loop (.seq (.seq (.reg false [⟨(some 8), none, .mov (.t 4)⟩, ⟨(some 9), none, .fad 0 (.t 1)⟩, ⟨(some 10), none, .load 1 false (.t 9)⟩, ⟨(some 11), none, .len false (.t 10)⟩, ⟨(some 12), none, .bin .lss (.t 8) (.t 11)⟩]) (.cond (.t 12) .skip (.exit 0))) (.seq (.block 1 (.reg false [⟨(some 15), none, .mov (.t 3)⟩, ⟨(some 16), none, .fad 0 (.t 1)⟩, ⟨(some 17), none, .load 1 false (.t 16)⟩, ⟨(some 18), none, .mov (.t 4)⟩, ⟨(some 19), none, .iad 6 (.t 17) (.t 18)⟩, ⟨(some 20), none, .load 6 true (.t 19)⟩, ⟨(some 21), none, .call 10 [(.t 20)]⟩, ⟨(some 22), none, .bin .add (.t 15) (.t 21)⟩, ⟨(some 23), none, .bin .add (.t 22) (.k (.string ⟨#[10]⟩))⟩, ⟨(some 3), none, .mov (.t 23)⟩])) (.reg false [⟨(some 13), none, .mov (.t 4)⟩, ⟨(some 14), none, .bin .add (.t 13) (.k (.int .i64 1))⟩, ⟨(some 4), none, .mov (.t 14)⟩])))))) (.seq (.reg false [⟨(some 24), none, .mov (.t 3)⟩, ⟨(some 2), none, .mov (.t 24)⟩]) .ret)))))
theorem ic_fn_spec_ok : compC Tryd.prog (Tryd.f14.body.getD .skip) = some ic_fn_spec := by kernel_rfl
set_option maxHeartbeats 8000000 in
theorem formatNotebook_spec_to (x : GNb) (hw : D.wfs (x.cells.map GCell.toD)) (hs : ∀ c ∈ x.cells, smallC c) : CallsTo Tryd.prog 14 [x.toD] (.c false [.raw (.string (fmtNb x.cells))]) := by
  refine calls_one (fn := Tryd.f14) (t := 2) (by kernel_rfl) (by kernel_rfl) (by kernel_rfl) ic_fn_spec_ok ?_
  unfold ic_fn_spec
  change AWP _ _ _ (st0 25 _)
  simp only [undef, stS, st0, stN, D.av, D.avN, sl_agg, leaf_agg, li_agg, ls_agg, sl_acs, leaf_acs, li_acs, ls_acs, GNb.acs_eq, GNb.flat_eq, GNb.agg_eq, GCell.acs_eq, GCell.flat_eq, GCell.agg_eq, List.map_cons, List.map_nil, List.replicate, List.cons_append, List.nil_append, List.length_cons, List.length_nil, Nat.reduceAdd, Nat.reduceSub]
  have hvn := validNb_spec_to x hw
  cases hv : validNb x.cells with
  | false =>
    rw [hv] at hvn
    repeat' (first | (with_reducible first | refine awp_seq ?_ | refine awp_block ?_ | refine awp_skip ?_ | refine awp_exit ?_ | refine awp_ret ?_ | refine athen ?_ | refine thenExit ?_ | refine thenRet ?_ | refine blockNormal ?_ | refine blockExit ?_ | refine blockRet ?_ | refine roundExit ?_ | refine roundRet ?_ | refine roundExitR ?_ | refine roundRetR ?_) | ((with_reducible refine blockPass ?_ ?_); rfl) | ((with_reducible refine awp_condT ?_ ?_); rfl) | ((with_reducible refine awp_condF ?_ ?_); rfl) | (with_reducible (refine awp_condS rfl ?_ ?_); all_goals (intro hb; have hb' := hb; (try simp only [pkC] at hb'); first | (exfalso; omega) | skip)) | ((with_reducible refine awp_reg ?_); intro K hK) | ((with_reducible refine hK _ ?_); clear hK K) | (with_reducible refine and_split ?_ ?_) | ((with_reducible refine ct_id ?_); first | (refine callThen hvn trivial ?_ ?_)) | ((with_reducible refine ctd_id ?_); first | (refine callThenD hvn trivial ?_ ?_)) | ((with_reducible refine sw_id ?_); simp (disch := first | decide | omega) only [↓pkS, pkW, pkA, undef, capsOf, ex, St.put, St.ev, kav, gdA, opI, rawI, vbin, srcOf, avsD, acsD, AV.toD, AC.toD, AV.nw, AC.nw, AC.one, Value.oneCell', fillA, D.one, D.ones, D.sz, D.szs, Nat.reduceAdd, Nat.reduceSub, Nat.reduceLeDiff, Nat.reduceEqDiff, reduceIte, pkN, li_acs, ls_acs, sl_acs, GNb.acs_eq, GNb.flat_eq, GNb.agg_eq, GCell.acs_eq, GCell.flat_eq, GCell.agg_eq, GCell.el, getq_mapF]) | (first | (with_reducible rfl) | (with_reducible refine fnok_id ?_; kernel_rfl) | exact el_strs _ | exact el_ints _ | exact el_ln _ | exact el_tk _ _ | exact el_td _ _ _ | omega | (simp; done) | (simp; omega)) | ((with_reducible refine args_id ?_); simp [ArgsOk, ArgOk, argsD, argD, AC.toD, Value.oneCell', sl_flat, leaf_flat, li_flat, ls_flat, sl_agg, leaf_agg, li_agg, ls_agg, mo_t, mo_f, li_acs, ls_acs, sl_acs, GNb.acs_eq, GNb.flat_eq, GNb.agg_eq, GCell.acs_eq, GCell.flat_eq, GCell.agg_eq, GCell.el, getq_mapF]; first | done | rfl))
    exact endRet ⟨_, rfl, by unfold fmtNb; rw [hv]; rfl, trivial⟩
  | true =>
    rw [hv] at hvn
    have hn := validNb_len hv
    have hres : fmtNb x.cells = fmtK x.cells x.cells.length := by unfold fmtNb; rw [if_pos hv]
    repeat' (first | (with_reducible first | refine awp_seq ?_ | refine awp_block ?_ | refine awp_skip ?_ | refine awp_exit ?_ | refine awp_ret ?_ | refine athen ?_ | refine thenExit ?_ | refine thenRet ?_ | refine blockNormal ?_ | refine blockExit ?_ | refine blockRet ?_ | refine roundExit ?_ | refine roundRet ?_ | refine roundExitR ?_ | refine roundRetR ?_) | ((with_reducible refine blockPass ?_ ?_); rfl) | ((with_reducible refine awp_condT ?_ ?_); rfl) | ((with_reducible refine awp_condF ?_ ?_); rfl) | (with_reducible (refine awp_condS rfl ?_ ?_); all_goals (intro hb; have hb' := hb; (try simp only [pkC] at hb'); first | (exfalso; omega) | skip)) | ((with_reducible refine awp_reg ?_); intro K hK) | ((with_reducible refine hK _ ?_); clear hK K) | (with_reducible refine and_split ?_ ?_) | ((with_reducible refine ct_id ?_); first | (refine callThen hvn trivial ?_ ?_)) | ((with_reducible refine ctd_id ?_); first | (refine callThenD hvn trivial ?_ ?_)) | ((with_reducible refine sw_id ?_); simp (disch := first | decide | omega) only [↓pkS, pkW, pkA, undef, capsOf, ex, St.put, St.ev, kav, gdA, opI, rawI, vbin, srcOf, avsD, acsD, AV.toD, AC.toD, AV.nw, AC.nw, AC.one, Value.oneCell', fillA, D.one, D.ones, D.sz, D.szs, Nat.reduceAdd, Nat.reduceSub, Nat.reduceLeDiff, Nat.reduceEqDiff, reduceIte, pkN, li_acs, ls_acs, sl_acs, GNb.acs_eq, GNb.flat_eq, GNb.agg_eq, GCell.acs_eq, GCell.flat_eq, GCell.agg_eq, GCell.el, getq_mapF]) | (first | (with_reducible rfl) | (with_reducible refine fnok_id ?_; kernel_rfl) | exact el_strs _ | exact el_ints _ | exact el_ln _ | exact el_tk _ _ | exact el_td _ _ _ | omega | (simp; done) | (simp; omega)) | ((with_reducible refine args_id ?_); simp [ArgsOk, ArgOk, argsD, argD, AC.toD, Value.oneCell', sl_flat, leaf_flat, li_flat, ls_flat, sl_agg, leaf_agg, li_agg, ls_agg, mo_t, mo_f, li_acs, ls_acs, sl_acs, GNb.acs_eq, GNb.flat_eq, GNb.agg_eq, GCell.acs_eq, GCell.flat_eq, GCell.agg_eq, GCell.el, getq_mapF]; first | done | rfl))
    refine awp_loopB (X := Nat) (fun q => [.d, .v (.bptr 0 0), .d, .v (.c false [.raw (.string (fmtK x.cells q))]), .v (.c false [.raw (.int .i64 (q : Nat))]), .d, .d, .d, .d, .d, .d, .d, .d, .d, .d, .d, .d, .d, .d, .d, .d, .d, .d, .d, .d]) (fun q => []) (fun q bs => bs) (fun q => q ≤ x.cells.length) (fun q => x.cells.length - q) 0 (Nat.zero_le _) ?_ ?_
    · simp [StLe', FrLe, OwnLe, BoxLe, AV.fits, AC.fits, FB, mask, fmtK]
    rintro k hk
    have hk : k ≤ x.cells.length := hk
    simp only [FB, mask]
    by_cases hlt : k < x.cells.length
    · have hsc := hs _ (List.getElem_mem hlt)
      have hfc := formatCell_spec_to x.cells[k] (D.wfs_get hw (List.mem_map_of_mem (List.getElem_mem hlt))) hsc.1 hsc.2
      have hl1 := fmtK_len hs k
      have hl2 := fmtCell_len hsc
      have e5 : nlB.size = 1 := rfl
      have hstep := fmtK_step hlt
      have q1 := catf2 (a := fmtK x.cells k) (b := fmtCell x.cells[k]) (by omega)
      have r1 := catf3 (a := fmtK x.cells k) (b := fmtCell x.cells[k]) (by omega)
      have q2 := catf2 (a := fmtK x.cells k ++ fmtCell x.cells[k]) (b := nlB) (by rw [ByteArray.size_append]; omega)
      have r2 := catf3 (a := fmtK x.cells k ++ fmtCell x.cells[k]) (b := nlB) (by rw [ByteArray.size_append]; omega)
      simp only [nlB] at q2 r2 hstep
      repeat' (first | (with_reducible first | refine awp_seq ?_ | refine awp_block ?_ | refine awp_skip ?_ | refine awp_exit ?_ | refine awp_ret ?_ | refine athen ?_ | refine thenExit ?_ | refine thenRet ?_ | refine blockNormal ?_ | refine blockExit ?_ | refine blockRet ?_ | refine roundExit ?_ | refine roundRet ?_ | refine roundExitR ?_ | refine roundRetR ?_) | ((with_reducible refine blockPass ?_ ?_); rfl) | ((with_reducible refine awp_condT ?_ ?_); rfl) | ((with_reducible refine awp_condF ?_ ?_); rfl) | (with_reducible (refine awp_condS rfl ?_ ?_); all_goals (intro hb; have hb' := hb; (try simp only [pkC] at hb'); first | (exfalso; omega) | skip)) | ((with_reducible refine awp_reg ?_); intro K hK) | ((with_reducible refine hK _ ?_); clear hK K) | (with_reducible refine and_split ?_ ?_) | ((with_reducible refine ct_id ?_); first | (refine callThen hfc trivial ?_ ?_)) | ((with_reducible refine ctd_id ?_); first | (refine callThenD hfc trivial ?_ ?_)) | ((with_reducible refine sw_id ?_); simp (disch := first | decide | omega) only [↓pkS, pkW, pkA, undef, capsOf, ex, St.put, St.ev, kav, gdA, opI, rawI, vbin, srcOf, avsD, acsD, AV.toD, AC.toD, AV.nw, AC.nw, AC.one, Value.oneCell', fillA, D.one, D.ones, D.sz, D.szs, Nat.reduceAdd, Nat.reduceSub, Nat.reduceLeDiff, Nat.reduceEqDiff, reduceIte, pkN, li_acs, ls_acs, sl_acs, GNb.acs_eq, GNb.flat_eq, GNb.agg_eq, GCell.acs_eq, GCell.flat_eq, GCell.agg_eq, GCell.el, getq_mapF, q1, r1, q2, r2]) | (first | (with_reducible rfl) | (with_reducible refine fnok_id ?_; kernel_rfl) | exact el_strs _ | exact el_ints _ | exact el_ln _ | exact el_tk _ _ | exact el_td _ _ _ | omega | (simp; done) | (simp; omega)) | ((with_reducible refine args_id ?_); simp [ArgsOk, ArgOk, argsD, argD, AC.toD, Value.oneCell', sl_flat, leaf_flat, li_flat, ls_flat, sl_agg, leaf_agg, li_agg, ls_agg, mo_t, mo_f, li_acs, ls_acs, sl_acs, GNb.acs_eq, GNb.flat_eq, GNb.agg_eq, GCell.acs_eq, GCell.flat_eq, GCell.agg_eq, GCell.el, getq_mapF, q1, r1, q2, r2]; first | done | rfl))
      refine roundB (k + 1) ?_ (show k + 1 ≤ x.cells.length by omega) (show x.cells.length - (k + 1) < x.cells.length - k by omega)
      simp [StLe', FrLe, OwnLe, BoxLe, AV.fits, AC.fits, FB, mask, hstep]
    obtain rfl : k = x.cells.length := by omega
    repeat' (first | (with_reducible first | refine awp_seq ?_ | refine awp_block ?_ | refine awp_skip ?_ | refine awp_exit ?_ | refine awp_ret ?_ | refine athen ?_ | refine thenExit ?_ | refine thenRet ?_ | refine blockNormal ?_ | refine blockExit ?_ | refine blockRet ?_ | refine roundExit ?_ | refine roundRet ?_ | refine roundExitR ?_ | refine roundRetR ?_) | ((with_reducible refine blockPass ?_ ?_); rfl) | ((with_reducible refine awp_condT ?_ ?_); rfl) | ((with_reducible refine awp_condF ?_ ?_); rfl) | (with_reducible (refine awp_condS rfl ?_ ?_); all_goals (intro hb; have hb' := hb; (try simp only [pkC] at hb'); first | (exfalso; omega) | skip)) | ((with_reducible refine awp_reg ?_); intro K hK) | ((with_reducible refine hK _ ?_); clear hK K) | (with_reducible refine and_split ?_ ?_) | ((with_reducible refine ct_id ?_); first | (refine callThen hvn trivial ?_ ?_)) | ((with_reducible refine ctd_id ?_); first | (refine callThenD hvn trivial ?_ ?_)) | ((with_reducible refine sw_id ?_); simp (disch := first | decide | omega) only [↓pkS, pkW, pkA, undef, capsOf, ex, St.put, St.ev, kav, gdA, opI, rawI, vbin, srcOf, avsD, acsD, AV.toD, AC.toD, AV.nw, AC.nw, AC.one, Value.oneCell', fillA, D.one, D.ones, D.sz, D.szs, Nat.reduceAdd, Nat.reduceSub, Nat.reduceLeDiff, Nat.reduceEqDiff, reduceIte, pkN, li_acs, ls_acs, sl_acs, GNb.acs_eq, GNb.flat_eq, GNb.agg_eq, GCell.acs_eq, GCell.flat_eq, GCell.agg_eq, GCell.el, getq_mapF]) | (first | (with_reducible rfl) | (with_reducible refine fnok_id ?_; kernel_rfl) | exact el_strs _ | exact el_ints _ | exact el_ln _ | exact el_tk _ _ | exact el_td _ _ _ | omega | (simp; done) | (simp; omega)) | ((with_reducible refine args_id ?_); simp [ArgsOk, ArgOk, argsD, argD, AC.toD, Value.oneCell', sl_flat, leaf_flat, li_flat, ls_flat, sl_agg, leaf_agg, li_agg, ls_agg, mo_t, mo_f, li_acs, ls_acs, sl_acs, GNb.acs_eq, GNb.flat_eq, GNb.agg_eq, GCell.acs_eq, GCell.flat_eq, GCell.agg_eq, GCell.el, getq_mapF]; first | done | rfl))
    exact endRet ⟨_, rfl, by rw [hres]; rfl, trivial⟩
def ic_fn_impl : IC := (.seq (.reg false [⟨(some 1), none, .box (.t 0)⟩, ⟨(some 2), none, .mov (.k (.string ⟨#[]⟩))⟩]) (.seq (.seq (.reg false [⟨(some 6), none, .load 1 true (.t 1)⟩, ⟨(some 7), none, .call 40 [(.t 6)]⟩, ⟨(some 8), none, .not (.t 7)⟩]) (.cond (.t 8) (.seq (.reg false [⟨(some 2), none, .mov (.k (.string ⟨#[]⟩))⟩]) .ret) .skip)) (.seq (.reg false [⟨(some 3), none, .mov (.k (.string ⟨#[]⟩))⟩]) (.seq (.seq (.reg false [⟨(some 9), none, .fad 0 (.t 1)⟩, ⟨(some 10), none, .load 1 false (.t 9)⟩, ⟨(some 11), none, .len false (.t 10)⟩, ⟨(some 12), none, .mov (.k (.int .i64 0))⟩]) (.block 0 (.loop (.seq (.reg false [⟨(some 13), none, .bin .lss (.t 12) (.t 11)⟩]) (.seq (.cond (.t 13) .skip (.exit 0)) (.seq (.block 1 (.seq (.reg false [⟨(some 14), none, .iad 6 (.t 10) (.t 12)⟩, ⟨(some 15), none, .load 6 true (.t 14)⟩, ⟨(some 5), none, .alloc [(.int .i64 0), (.int .i64 0), (.int .i64 0), (.string ⟨#[]⟩), (.string ⟨#[]⟩), (.int .i64 0)]⟩, ⟨none, none, .store 6 (.t 5) (.t 15)⟩]) (.reg false [⟨(some 16), none, .mov (.t 3)⟩, ⟨(some 17), none, .load 6 true (.t 5)⟩, ⟨(some 18), none, .call 12 [(.t 17)]⟩, ⟨(some 19), none, .bin .add (.t 16) (.t 18)⟩, ⟨(some 20), none, .bin .add (.t 19) (.k (.string ⟨#[10]⟩))⟩, ⟨(some 3), none, .mov (.t 20)⟩]))) (.reg false [⟨(some 21), none, .bin .add (.t 12) (.k (.int .i64 1))⟩, ⟨(some 12), none, .mov (.t 21)⟩]))))))) (.seq (.reg false [⟨(some 22), none, .mov (.t 3)⟩, ⟨(some 2), none, .mov (.t 22)⟩]) .ret)))))
theorem ic_fn_impl_ok : compC Tryd.prog (Tryd.f16.body.getD .skip) = some ic_fn_impl := by kernel_rfl
set_option maxHeartbeats 8000000 in
theorem formatNotebook_impl_to (x : GNb) (hw : D.wfs (x.cells.map GCell.toD)) (hs : ∀ c ∈ x.cells, smallC c) : CallsTo Tryd.prog 16 [x.toD] (.c false [.raw (.string (fmtNb x.cells))]) := by
  refine calls_one (fn := Tryd.f16) (t := 2) (by kernel_rfl) (by kernel_rfl) (by kernel_rfl) ic_fn_impl_ok ?_
  unfold ic_fn_impl
  change AWP _ _ _ (st0 23 _)
  simp only [undef, stS, st0, stN, D.av, D.avN, sl_agg, leaf_agg, li_agg, ls_agg, sl_acs, leaf_acs, li_acs, ls_acs, GNb.acs_eq, GNb.flat_eq, GNb.agg_eq, GCell.acs_eq, GCell.flat_eq, GCell.agg_eq, List.map_cons, List.map_nil, List.replicate, List.cons_append, List.nil_append, List.length_cons, List.length_nil, Nat.reduceAdd, Nat.reduceSub]
  have hvn := validNb_impl_to x hw
  cases hv : validNb x.cells with
  | false =>
    rw [hv] at hvn
    repeat' (first | (with_reducible first | refine awp_seq ?_ | refine awp_block ?_ | refine awp_skip ?_ | refine awp_exit ?_ | refine awp_ret ?_ | refine athen ?_ | refine thenExit ?_ | refine thenRet ?_ | refine blockNormal ?_ | refine blockExit ?_ | refine blockRet ?_ | refine roundExit ?_ | refine roundRet ?_ | refine roundExitR ?_ | refine roundRetR ?_) | ((with_reducible refine blockPass ?_ ?_); rfl) | ((with_reducible refine awp_condT ?_ ?_); rfl) | ((with_reducible refine awp_condF ?_ ?_); rfl) | (with_reducible (refine awp_condS rfl ?_ ?_); all_goals (intro hb; have hb' := hb; (try simp only [pkC] at hb'); first | (exfalso; omega) | skip)) | ((with_reducible refine awp_reg ?_); intro K hK) | ((with_reducible refine hK _ ?_); clear hK K) | (with_reducible refine and_split ?_ ?_) | ((with_reducible refine ct_id ?_); first | (refine callThen hvn trivial ?_ ?_)) | ((with_reducible refine ctd_id ?_); first | (refine callThenD hvn trivial ?_ ?_)) | ((with_reducible refine sw_id ?_); simp (disch := first | decide | omega) only [↓pkS, pkW, pkA, undef, capsOf, ex, St.put, St.ev, kav, gdA, opI, rawI, vbin, srcOf, avsD, acsD, AV.toD, AC.toD, AV.nw, AC.nw, AC.one, Value.oneCell', fillA, D.one, D.ones, D.sz, D.szs, Nat.reduceAdd, Nat.reduceSub, Nat.reduceLeDiff, Nat.reduceEqDiff, reduceIte, pkN, li_acs, ls_acs, sl_acs, GNb.acs_eq, GNb.flat_eq, GNb.agg_eq, GCell.acs_eq, GCell.flat_eq, GCell.agg_eq, GCell.el, getq_mapF]) | (first | (with_reducible rfl) | (with_reducible refine fnok_id ?_; kernel_rfl) | exact el_strs _ | exact el_ints _ | exact el_ln _ | exact el_tk _ _ | exact el_td _ _ _ | omega | (simp; done) | (simp; omega)) | ((with_reducible refine args_id ?_); simp [ArgsOk, ArgOk, argsD, argD, AC.toD, Value.oneCell', sl_flat, leaf_flat, li_flat, ls_flat, sl_agg, leaf_agg, li_agg, ls_agg, mo_t, mo_f, li_acs, ls_acs, sl_acs, GNb.acs_eq, GNb.flat_eq, GNb.agg_eq, GCell.acs_eq, GCell.flat_eq, GCell.agg_eq, GCell.el, getq_mapF]; first | done | rfl))
    exact endRet ⟨_, rfl, by unfold fmtNb; rw [hv]; rfl, trivial⟩
  | true =>
    rw [hv] at hvn
    have hn := validNb_len hv
    have hres : fmtNb x.cells = fmtK x.cells x.cells.length := by unfold fmtNb; rw [if_pos hv]
    repeat' (first | (with_reducible first | refine awp_seq ?_ | refine awp_block ?_ | refine awp_skip ?_ | refine awp_exit ?_ | refine awp_ret ?_ | refine athen ?_ | refine thenExit ?_ | refine thenRet ?_ | refine blockNormal ?_ | refine blockExit ?_ | refine blockRet ?_ | refine roundExit ?_ | refine roundRet ?_ | refine roundExitR ?_ | refine roundRetR ?_) | ((with_reducible refine blockPass ?_ ?_); rfl) | ((with_reducible refine awp_condT ?_ ?_); rfl) | ((with_reducible refine awp_condF ?_ ?_); rfl) | (with_reducible (refine awp_condS rfl ?_ ?_); all_goals (intro hb; have hb' := hb; (try simp only [pkC] at hb'); first | (exfalso; omega) | skip)) | ((with_reducible refine awp_reg ?_); intro K hK) | ((with_reducible refine hK _ ?_); clear hK K) | (with_reducible refine and_split ?_ ?_) | ((with_reducible refine ct_id ?_); first | (refine callThen hvn trivial ?_ ?_)) | ((with_reducible refine ctd_id ?_); first | (refine callThenD hvn trivial ?_ ?_)) | ((with_reducible refine sw_id ?_); simp (disch := first | decide | omega) only [↓pkS, pkW, pkA, undef, capsOf, ex, St.put, St.ev, kav, gdA, opI, rawI, vbin, srcOf, avsD, acsD, AV.toD, AC.toD, AV.nw, AC.nw, AC.one, Value.oneCell', fillA, D.one, D.ones, D.sz, D.szs, Nat.reduceAdd, Nat.reduceSub, Nat.reduceLeDiff, Nat.reduceEqDiff, reduceIte, pkN, li_acs, ls_acs, sl_acs, GNb.acs_eq, GNb.flat_eq, GNb.agg_eq, GCell.acs_eq, GCell.flat_eq, GCell.agg_eq, GCell.el, getq_mapF]) | (first | (with_reducible rfl) | (with_reducible refine fnok_id ?_; kernel_rfl) | exact el_strs _ | exact el_ints _ | exact el_ln _ | exact el_tk _ _ | exact el_td _ _ _ | omega | (simp; done) | (simp; omega)) | ((with_reducible refine args_id ?_); simp [ArgsOk, ArgOk, argsD, argD, AC.toD, Value.oneCell', sl_flat, leaf_flat, li_flat, ls_flat, sl_agg, leaf_agg, li_agg, ls_agg, mo_t, mo_f, li_acs, ls_acs, sl_acs, GNb.acs_eq, GNb.flat_eq, GNb.agg_eq, GCell.acs_eq, GCell.flat_eq, GCell.agg_eq, GCell.el, getq_mapF]; first | done | rfl))
    refine awp_loopB (X := Nat) (fun q => [.d, .v (.bptr 0 0), .d, .v (.c false [.raw (.string (fmtK x.cells q))]), .d, .d, .d, .d, .d, .d, .v (.c false [.sl false (x.cells.map GCell.toD)]), .v (.c false [.raw (.int .i64 (x.cells.length : Nat))]), .v (.c false [.raw (.int .i64 (q : Nat))]), .d, .d, .d, .d, .d, .d, .d, .d, .d, .d]) (fun q => []) (fun q bs => bs) (fun q => q ≤ x.cells.length) (fun q => x.cells.length - q) 0 (Nat.zero_le _) ?_ ?_
    · simp [StLe', FrLe, OwnLe, BoxLe, AV.fits, AC.fits, FB, mask, fmtK]
    rintro k hk
    have hk : k ≤ x.cells.length := hk
    simp only [FB, mask]
    by_cases hlt : k < x.cells.length
    · have hsc := hs _ (List.getElem_mem hlt)
      have hfc := formatCell_impl_to x.cells[k] (D.wfs_get hw (List.mem_map_of_mem (List.getElem_mem hlt))) hsc.1 hsc.2
      have hl1 := fmtK_len hs k
      have hl2 := fmtCell_len hsc
      have e5 : nlB.size = 1 := rfl
      have hstep := fmtK_step hlt
      have q1 := catf2 (a := fmtK x.cells k) (b := fmtCell x.cells[k]) (by omega)
      have r1 := catf3 (a := fmtK x.cells k) (b := fmtCell x.cells[k]) (by omega)
      have q2 := catf2 (a := fmtK x.cells k ++ fmtCell x.cells[k]) (b := nlB) (by rw [ByteArray.size_append]; omega)
      have r2 := catf3 (a := fmtK x.cells k ++ fmtCell x.cells[k]) (b := nlB) (by rw [ByteArray.size_append]; omega)
      simp only [nlB] at q2 r2 hstep
      repeat' (first | (with_reducible first | refine awp_seq ?_ | refine awp_block ?_ | refine awp_skip ?_ | refine awp_exit ?_ | refine awp_ret ?_ | refine athen ?_ | refine thenExit ?_ | refine thenRet ?_ | refine blockNormal ?_ | refine blockExit ?_ | refine blockRet ?_ | refine roundExit ?_ | refine roundRet ?_ | refine roundExitR ?_ | refine roundRetR ?_) | ((with_reducible refine blockPass ?_ ?_); rfl) | ((with_reducible refine awp_condT ?_ ?_); rfl) | ((with_reducible refine awp_condF ?_ ?_); rfl) | (with_reducible (refine awp_condS rfl ?_ ?_); all_goals (intro hb; have hb' := hb; (try simp only [pkC] at hb'); first | (exfalso; omega) | skip)) | ((with_reducible refine awp_reg ?_); intro K hK) | ((with_reducible refine hK _ ?_); clear hK K) | (with_reducible refine and_split ?_ ?_) | ((with_reducible refine ct_id ?_); first | (refine callThen hfc trivial ?_ ?_)) | ((with_reducible refine ctd_id ?_); first | (refine callThenD hfc trivial ?_ ?_)) | ((with_reducible refine sw_id ?_); simp (disch := first | decide | omega) only [↓pkS, pkW, pkA, undef, capsOf, ex, St.put, St.ev, kav, gdA, opI, rawI, vbin, srcOf, avsD, acsD, AV.toD, AC.toD, AV.nw, AC.nw, AC.one, Value.oneCell', fillA, D.one, D.ones, D.sz, D.szs, Nat.reduceAdd, Nat.reduceSub, Nat.reduceLeDiff, Nat.reduceEqDiff, reduceIte, pkN, li_acs, ls_acs, sl_acs, GNb.acs_eq, GNb.flat_eq, GNb.agg_eq, GCell.acs_eq, GCell.flat_eq, GCell.agg_eq, GCell.el, getq_mapF, q1, r1, q2, r2]) | (first | (with_reducible rfl) | (with_reducible refine fnok_id ?_; kernel_rfl) | exact el_strs _ | exact el_ints _ | exact el_ln _ | exact el_tk _ _ | exact el_td _ _ _ | omega | (simp; done) | (simp; omega)) | ((with_reducible refine args_id ?_); simp [ArgsOk, ArgOk, argsD, argD, AC.toD, Value.oneCell', sl_flat, leaf_flat, li_flat, ls_flat, sl_agg, leaf_agg, li_agg, ls_agg, mo_t, mo_f, li_acs, ls_acs, sl_acs, GNb.acs_eq, GNb.flat_eq, GNb.agg_eq, GCell.acs_eq, GCell.flat_eq, GCell.agg_eq, GCell.el, getq_mapF, q1, r1, q2, r2]; first | done | rfl))
      refine roundB (k + 1) ?_ (show k + 1 ≤ x.cells.length by omega) (show x.cells.length - (k + 1) < x.cells.length - k by omega)
      simp [StLe', FrLe, OwnLe, BoxLe, AV.fits, AC.fits, FB, mask, hstep]
    obtain rfl : k = x.cells.length := by omega
    repeat' (first | (with_reducible first | refine awp_seq ?_ | refine awp_block ?_ | refine awp_skip ?_ | refine awp_exit ?_ | refine awp_ret ?_ | refine athen ?_ | refine thenExit ?_ | refine thenRet ?_ | refine blockNormal ?_ | refine blockExit ?_ | refine blockRet ?_ | refine roundExit ?_ | refine roundRet ?_ | refine roundExitR ?_ | refine roundRetR ?_) | ((with_reducible refine blockPass ?_ ?_); rfl) | ((with_reducible refine awp_condT ?_ ?_); rfl) | ((with_reducible refine awp_condF ?_ ?_); rfl) | (with_reducible (refine awp_condS rfl ?_ ?_); all_goals (intro hb; have hb' := hb; (try simp only [pkC] at hb'); first | (exfalso; omega) | skip)) | ((with_reducible refine awp_reg ?_); intro K hK) | ((with_reducible refine hK _ ?_); clear hK K) | (with_reducible refine and_split ?_ ?_) | ((with_reducible refine ct_id ?_); first | (refine callThen hvn trivial ?_ ?_)) | ((with_reducible refine ctd_id ?_); first | (refine callThenD hvn trivial ?_ ?_)) | ((with_reducible refine sw_id ?_); simp (disch := first | decide | omega) only [↓pkS, pkW, pkA, undef, capsOf, ex, St.put, St.ev, kav, gdA, opI, rawI, vbin, srcOf, avsD, acsD, AV.toD, AC.toD, AV.nw, AC.nw, AC.one, Value.oneCell', fillA, D.one, D.ones, D.sz, D.szs, Nat.reduceAdd, Nat.reduceSub, Nat.reduceLeDiff, Nat.reduceEqDiff, reduceIte, pkN, li_acs, ls_acs, sl_acs, GNb.acs_eq, GNb.flat_eq, GNb.agg_eq, GCell.acs_eq, GCell.flat_eq, GCell.agg_eq, GCell.el, getq_mapF]) | (first | (with_reducible rfl) | (with_reducible refine fnok_id ?_; kernel_rfl) | exact el_strs _ | exact el_ints _ | exact el_ln _ | exact el_tk _ _ | exact el_td _ _ _ | omega | (simp; done) | (simp; omega)) | ((with_reducible refine args_id ?_); simp [ArgsOk, ArgOk, argsD, argD, AC.toD, Value.oneCell', sl_flat, leaf_flat, li_flat, ls_flat, sl_agg, leaf_agg, li_agg, ls_agg, mo_t, mo_f, li_acs, ls_acs, sl_acs, GNb.acs_eq, GNb.flat_eq, GNb.agg_eq, GCell.acs_eq, GCell.flat_eq, GCell.agg_eq, GCell.el, getq_mapF]; first | done | rfl))
    exact endRet ⟨_, rfl, by rw [hres]; rfl, trivial⟩
theorem formatNotebook_spec_law (x : GNb) (hw : D.wfs (x.cells.map GCell.toD)) (hs : ∀ c ∈ x.cells, smallC c) (fp : List Nat) (cs : List Value) (w : World) (h : R w x.toD fp cs) (ht : TabP w) : Calls Tryd.prog 14 #[.agg cs.toArray] w (RetB (.string (fmtNb x.cells)) w) :=
  of_raw (formatNotebook_spec_to x hw hs) (vs := [.agg cs.toArray]) ⟨rd_of_agg x.agg_eq h, trivial⟩ ht
theorem formatNotebook_impl_law (x : GNb) (hw : D.wfs (x.cells.map GCell.toD)) (hs : ∀ c ∈ x.cells, smallC c) (fp : List Nat) (cs : List Value) (w : World) (h : R w x.toD fp cs) (ht : TabP w) : Calls Tryd.prog 16 #[.agg cs.toArray] w (RetB (.string (fmtNb x.cells)) w) :=
  of_raw (formatNotebook_impl_to x hw hs) (vs := [.agg cs.toArray]) ⟨rd_of_agg x.agg_eq h, trivial⟩ ht
end Go.Proofs.YtdjcflnemnknaaaDoor
