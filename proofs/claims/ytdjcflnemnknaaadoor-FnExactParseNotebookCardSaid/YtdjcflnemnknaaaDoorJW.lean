/-
  Texts joined: FmtNb PNb.
-/
import Derived.Test.YtdjcflnemnknaaaDoorJS
import Derived.Test.YtdjcflnemnknaaaDoorJX
import Derived.Test.YtdjcflnemnknaaaDoorJV
import Derived.Test.YtdjcflnemnknaaaDoorJA
namespace Go.Proofs.YtdjcflnemnknaaaDoor
open Go.RowKit
set_option linter.unusedSimpArgs false
set_option linter.unusedVariables false
theorem nb_leaf' {w : World} {x : GNb} {v : Value} (h : Rd w x.toD v) : ∃ fp a, v = .agg #[a] ∧ Sl w (x.cells.map GCell.toD) fp a ∧ R w x.toD fp [a] := by
  obtain ⟨fp, cs, rfl, h2⟩ := rd_agg x.agg_eq h
  obtain ⟨u, f, rfl, rfl, h1⟩ := GNb.opened.1 h2
  exact ⟨_, u, rfl, h1, h2⟩
theorem validNb_impl_to (x : GNb) (hw : D.wfs (x.cells.map GCell.toD)) : CallsTo Tryd.prog 40 [x.toD] (.c false [.raw (.bool (validNb x.cells))]) := to_retB fun w vs hr => by
  obtain ⟨v, rfl, h1⟩ := rds1 hr
  obtain ⟨fp, a, rfl, hS, _⟩ := nb_leaf' h1
  exact isValidNotebook_impl x.cells fp a w hS hw
theorem validNb_spec_to (x : GNb) (hw : D.wfs (x.cells.map GCell.toD)) : CallsTo Tryd.prog 38 [x.toD] (.c false [.raw (.bool (validNb x.cells))]) := to_retB fun w vs hr => by
  obtain ⟨v, rfl, h1⟩ := rds1 hr
  obtain ⟨fp, a, rfl, hS, _⟩ := nb_leaf' h1
  exact isValidNotebook_spec x.cells fp a w hS hw
def nlB : ByteArray := ⟨#[10]⟩
/-- The texts of the first k cells, a line each. -/
def fmtK (l : List GCell) : Nat → ByteArray
  | 0 => ⟨#[]⟩
  | k + 1 => (match l[k]? with | some x => fmtK l k ++ fmtCell x ++ nlB | none => fmtK l k)
/-- The text of a notebook. -/
def fmtNb (l : List GCell) : ByteArray := if validNb l = true then fmtK l l.length else ⟨#[]⟩
def smallC (x : GCell) : Prop := x.code.size ≤ 1048576 ∧ x.name.size ≤ 1048576
theorem fmtCell_len {x : GCell} (h : smallC x) : (fmtCell x).size ≤ 1073741824 := by
  unfold fmtCell
  split
  · next hv =>
    have := joinW_len hv h.1 h.2
    simpa [joinB, ByteArray.size] using this
  · decide
theorem fmtK_step {l : List GCell} {k : Nat} (h : k < l.length) : fmtK l (k + 1) = fmtK l k ++ fmtCell l[k] ++ nlB := by
  simp [fmtK, h]
theorem fmtK_len {l : List GCell} (hs : ∀ x ∈ l, smallC x) : ∀ k, (fmtK l k).size ≤ k * 1073741825
  | 0 => by simp [fmtK, ByteArray.size]
  | k + 1 => by
    have ih := fmtK_len hs k
    by_cases h : k < l.length
    · rw [fmtK_step h, ByteArray.size_append, ByteArray.size_append]
      have := fmtCell_len (hs _ (List.getElem_mem h))
      have e : nlB.size = 1 := rfl
      rw [e, Nat.succ_mul]
      have h3 := Nat.add_le_add ih this
      exact Nat.le_trans (Nat.add_le_add_right h3 1) (Nat.le_of_eq (Nat.add_assoc _ _ _))
    · simp only [fmtK]
      rw [List.getElem?_eq_none (by omega)]
      exact Nat.le_trans ih (Nat.mul_le_mul_right _ (Nat.le_succ k))
theorem validNb_len {l : List GCell} (h : validNb l = true) : l.length ≤ 8 := by
  unfold validNb at h
  simp only [Bool.and_eq_true, decide_eq_true_eq] at h
  omega
theorem smallC_of : ∀ {l : List GCell}, D.wts (l.map GCell.toD) ≤ 1048576 → ∀ c ∈ l, smallC c
  | [], _, c, hc => by simp at hc
  | x :: l, h, c, hc => by
    rw [List.map_cons, D.wts] at h
    rcases List.mem_cons.1 hc with rfl | hc
    · simp [GCell.toD_eq, D.wt, D.wts, ls, li, leafWt] at h
      exact ⟨by omega, by omega⟩
    · exact smallC_of (by omega) c hc
def ic_fn_spec : IC := (.seq (.reg false [⟨(some 1), none, .box (.t 0)⟩, ⟨(some 2), none, .mov (.k (.string ⟨#[]⟩))⟩]) (.seq (.seq (.reg false [⟨(some 5), none, .load 1 true (.t 1)⟩, ⟨(some 6), none, .call 38 [(.t 5)]⟩, ⟨(some 7), none, .not (.t 6)⟩]) (.cond (.t 7) (.seq (.reg false [⟨(some 2), none, .mov (.k (.string ⟨#[]⟩))⟩]) .ret) .skip)) (.seq (.reg false [⟨(some 3), none, .mov (.k (.string ⟨#[]⟩))⟩]) (.seq (.seq (.reg false [⟨(some 4), none, .mov (.k (.int .i64 0))⟩]) (.block 0 (.loop (.seq (.seq (.reg false [⟨(some 8), none, .mov (.t 4)⟩, ⟨(some 9), none, .fad 0 (.t 1)⟩, ⟨(some 10), none, .load 1 false (.t 9)⟩, ⟨(some 11), none, .len false (.t 10)⟩, ⟨(some 12), none, .bin .lss (.t 8) (.t 11)⟩]) (.cond (.t 12) .skip (.exit 0))) (.seq (.block 1 (.reg false [⟨(some 15), none, .mov (.t 3)⟩, ⟨(some 16), none, .fad 0 (.t 1)⟩, ⟨(some 17), none, .load 1 false (.t 16)⟩, ⟨(some 18), none, .mov (.t 4)⟩, ⟨(some 19), none, .iad 6 (.t 17) (.t 18)⟩, ⟨(some 20), none, .load 6 true (.t 19)⟩, ⟨(some 21), none, .call 10 [(.t 20)]⟩, ⟨(some 22), none, .bin .add (.t 15) (.t 21)⟩, ⟨(some 23), none, .bin .add (.t 22) (.k (.string ⟨#[10]⟩))⟩, ⟨(some 3), none, .mov (.t 23)⟩])) (.reg false [⟨(some 13), none, .mov (.t 4)⟩, ⟨(some 14), none, .bin .add (.t 13) (.k (.int .i64 1))⟩, ⟨(some 4), none, .mov (.t 14)⟩])))))) (.seq (.reg false [⟨(some 24), none, .mov (.t 3)⟩, ⟨(some 2), none, .mov (.t 24)⟩]) .ret)))))
theorem ic_fn_spec_ok : compC Tryd.prog (Tryd.f14.body.getD .skip) = some ic_fn_spec := by kernel_rfl
set_option maxHeartbeats 8000000 in
theorem formatNotebook_spec_to (x : GNb) (hw : D.wfs (x.cells.map GCell.toD)) (hs : ∀ c ∈ x.cells, smallC c) : CallsTo Tryd.prog 14 [x.toD] (.c false [.raw (.string (fmtNb x.cells))]) := by
  refine calls_one (fn := Tryd.f14) (t := 2) (by kernel_rfl) (by kernel_rfl) (by kernel_rfl) ic_fn_spec_ok ?_
  unfold ic_fn_spec
  change AWP _ _ _ (st0 25 _)
  simp only [undef, stS, st0, stN, D.av, D.avN, sl_agg, leaf_agg, li_agg, ls_agg, sl_acs, leaf_acs, li_acs, ls_acs, GNb.acs_eq, GNb.flat_eq, GNb.agg_eq, GCell.acs_eq, GCell.flat_eq, GCell.agg_eq, List.map_cons, List.map_nil, List.replicate, List.cons_append, List.nil_append, List.length_cons, List.length_nil, Nat.reduceAdd, Nat.reduceSub]
  have hvn := validNb_spec_to x hw
  cases hv : validNb x.cells with
  | false =>
    rw [hv] at hvn
    repeat' (first | (with_reducible first | refine awp_seq ?_ | refine awp_block ?_ | refine awp_skip ?_ | refine awp_exit ?_ | refine awp_ret ?_ | refine athen ?_ | refine thenExit ?_ | refine thenRet ?_ | refine blockNormal ?_ | refine blockExit ?_ | refine blockRet ?_ | refine roundExit ?_ | refine roundRet ?_ | refine roundExitR ?_ | refine roundRetR ?_) | ((with_reducible refine blockPass ?_ ?_); rfl) | ((with_reducible refine awp_condT ?_ ?_); rfl) | ((with_reducible refine awp_condF ?_ ?_); rfl) | (with_reducible (refine awp_condS rfl ?_ ?_); all_goals (intro hb; have hb' := hb; (try simp only [pkC] at hb'); first | (exfalso; omega) | skip)) | ((with_reducible refine awp_reg ?_); intro K hK) | ((with_reducible refine hK _ ?_); clear hK K) | (with_reducible refine and_split ?_ ?_) | ((with_reducible refine ct_id ?_); first | (refine callThen hvn trivial ?_ ?_)) | ((with_reducible refine ctd_id ?_); first | (refine callThenD hvn trivial ?_ ?_)) | ((with_reducible refine sw_id ?_); simp (disch := first | decide | omega) only [↓pkS, pkW, pkA, undef, capsOf, ex, St.put, St.ev, kav, gdA, opI, rawI, vbin, srcOf, avsD, acsD, AV.toD, AC.toD, AV.nw, AC.nw, AC.one, Value.oneCell', fillA, D.one, D.ones, D.sz, D.szs, Nat.reduceAdd, Nat.reduceSub, Nat.reduceLeDiff, Nat.reduceEqDiff, reduceIte, pkN, li_acs, ls_acs, sl_acs, GNb.acs_eq, GNb.flat_eq, GNb.agg_eq, GCell.acs_eq, GCell.flat_eq, GCell.agg_eq, GCell.el, getq_mapF]) | (first | (with_reducible rfl) | (with_reducible refine fnok_id ?_; kernel_rfl) | exact el_strs _ | exact el_ints _ | exact el_ln _ | exact el_tk _ _ | exact el_td _ _ _ | omega | (simp; done) | (simp; omega)) | ((with_reducible refine args_id ?_); simp [ArgsOk, ArgOk, argsD, argD, AC.toD, Value.oneCell', sl_flat, leaf_flat, li_flat, ls_flat, sl_agg, leaf_agg, li_agg, ls_agg, mo_t, mo_f, li_acs, ls_acs, sl_acs, GNb.acs_eq, GNb.flat_eq, GNb.agg_eq, GCell.acs_eq, GCell.flat_eq, GCell.agg_eq, GCell.el, getq_mapF]; first | done | rfl))
    exact endRet ⟨_, rfl, by unfold fmtNb; rw [hv]; rfl, trivial⟩
  | true =>
    rw [hv] at hvn
    have hn := validNb_len hv
    have hres : fmtNb x.cells = fmtK x.cells x.cells.length := by unfold fmtNb; rw [if_pos hv]
    repeat' (first | (with_reducible first | refine awp_seq ?_ | refine awp_block ?_ | refine awp_skip ?_ | refine awp_exit ?_ | refine awp_ret ?_ | refine athen ?_ | refine thenExit ?_ | refine thenRet ?_ | refine blockNormal ?_ | refine blockExit ?_ | refine blockRet ?_ | refine roundExit ?_ | refine roundRet ?_ | refine roundExitR ?_ | refine roundRetR ?_) | ((with_reducible refine blockPass ?_ ?_); rfl) | ((with_reducible refine awp_condT ?_ ?_); rfl) | ((with_reducible refine awp_condF ?_ ?_); rfl) | (with_reducible (refine awp_condS rfl ?_ ?_); all_goals (intro hb; have hb' := hb; (try simp only [pkC] at hb'); first | (exfalso; omega) | skip)) | ((with_reducible refine awp_reg ?_); intro K hK) | ((with_reducible refine hK _ ?_); clear hK K) | (with_reducible refine and_split ?_ ?_) | ((with_reducible refine ct_id ?_); first | (refine callThen hvn trivial ?_ ?_)) | ((with_reducible refine ctd_id ?_); first | (refine callThenD hvn trivial ?_ ?_)) | ((with_reducible refine sw_id ?_); simp (disch := first | decide | omega) only [↓pkS, pkW, pkA, undef, capsOf, ex, St.put, St.ev, kav, gdA, opI, rawI, vbin, srcOf, avsD, acsD, AV.toD, AC.toD, AV.nw, AC.nw, AC.one, Value.oneCell', fillA, D.one, D.ones, D.sz, D.szs, Nat.reduceAdd, Nat.reduceSub, Nat.reduceLeDiff, Nat.reduceEqDiff, reduceIte, pkN, li_acs, ls_acs, sl_acs, GNb.acs_eq, GNb.flat_eq, GNb.agg_eq, GCell.acs_eq, GCell.flat_eq, GCell.agg_eq, GCell.el, getq_mapF]) | (first | (with_reducible rfl) | (with_reducible refine fnok_id ?_; kernel_rfl) | exact el_strs _ | exact el_ints _ | exact el_ln _ | exact el_tk _ _ | exact el_td _ _ _ | omega | (simp; done) | (simp; omega)) | ((with_reducible refine args_id ?_); simp [ArgsOk, ArgOk, argsD, argD, AC.toD, Value.oneCell', sl_flat, leaf_flat, li_flat, ls_flat, sl_agg, leaf_agg, li_agg, ls_agg, mo_t, mo_f, li_acs, ls_acs, sl_acs, GNb.acs_eq, GNb.flat_eq, GNb.agg_eq, GCell.acs_eq, GCell.flat_eq, GCell.agg_eq, GCell.el, getq_mapF]; first | done | rfl))
    refine awp_loopB (X := Nat) (fun q => [.d, .v (.bptr 0 0), .d, .v (.c false [.raw (.string (fmtK x.cells q))]), .v (.c false [.raw (.int .i64 (q : Nat))]), .d, .d, .d, .d, .d, .d, .d, .d, .d, .d, .d, .d, .d, .d, .d, .d, .d, .d, .d, .d]) (fun q => []) (fun q bs => bs) (fun q => q ≤ x.cells.length) (fun q => x.cells.length - q) 0 (Nat.zero_le _) ?_ ?_
    · simp [StLe', FrLe, OwnLe, BoxLe, AV.fits, AC.fits, FB, mask, fmtK]
    rintro k hk
    have hk : k ≤ x.cells.length := hk
    simp only [FB, mask]
    by_cases hlt : k < x.cells.length
    · have hsc := hs _ (List.getElem_mem hlt)
      have hfc := formatCell_spec_to x.cells[k] (D.wfs_get hw (List.mem_map_of_mem (List.getElem_mem hlt))) hsc.1 hsc.2
      have hl1 := fmtK_len hs k
      have hl2 := fmtCell_len hsc
      have e5 : nlB.size = 1 := rfl
      have hstep := fmtK_step hlt
      have q1 := catf2 (a := fmtK x.cells k) (b := fmtCell x.cells[k]) (by omega)
      have r1 := catf3 (a := fmtK x.cells k) (b := fmtCell x.cells[k]) (by omega)
      have q2 := catf2 (a := fmtK x.cells k ++ fmtCell x.cells[k]) (b := nlB) (by rw [ByteArray.size_append]; omega)
      have r2 := catf3 (a := fmtK x.cells k ++ fmtCell x.cells[k]) (b := nlB) (by rw [ByteArray.size_append]; omega)
      simp only [nlB] at q2 r2 hstep
      repeat' (first | (with_reducible first | refine awp_seq ?_ | refine awp_block ?_ | refine awp_skip ?_ | refine awp_exit ?_ | refine awp_ret ?_ | refine athen ?_ | refine thenExit ?_ | refine thenRet ?_ | refine blockNormal ?_ | refine blockExit ?_ | refine blockRet ?_ | refine roundExit ?_ | refine roundRet ?_ | refine roundExitR ?_ | refine roundRetR ?_) | ((with_reducible refine blockPass ?_ ?_); rfl) | ((with_reducible refine awp_condT ?_ ?_); rfl) | ((with_reducible refine awp_condF ?_ ?_); rfl) | (with_reducible (refine awp_condS rfl ?_ ?_); all_goals (intro hb; have hb' := hb; (try simp only [pkC] at hb'); first | (exfalso; omega) | skip)) | ((with_reducible refine awp_reg ?_); intro K hK) | ((with_reducible refine hK _ ?_); clear hK K) | (with_reducible refine and_split ?_ ?_) | ((with_reducible refine ct_id ?_); first | (refine callThen hfc trivial ?_ ?_)) | ((with_reducible refine ctd_id ?_); first | (refine callThenD hfc trivial ?_ ?_)) | ((with_reducible refine sw_id ?_); simp (disch := first | decide | omega) only [↓pkS, pkW, pkA, undef, capsOf, ex, St.put, St.ev, kav, gdA, opI, rawI, vbin, srcOf, avsD, acsD, AV.toD, AC.toD, AV.nw, AC.nw, AC.one, Value.oneCell', fillA, D.one, D.ones, D.sz, D.szs, Nat.reduceAdd, Nat.reduceSub, Nat.reduceLeDiff, Nat.reduceEqDiff, reduceIte, pkN, li_acs, ls_acs, sl_acs, GNb.acs_eq, GNb.flat_eq, GNb.agg_eq, GCell.acs_eq, GCell.flat_eq, GCell.agg_eq, GCell.el, getq_mapF, q1, r1, q2, r2]) | (first | (with_reducible rfl) | (with_reducible refine fnok_id ?_; kernel_rfl) | exact el_strs _ | exact el_ints _ | exact el_ln _ | exact el_tk _ _ | exact el_td _ _ _ | omega | (simp; done) | (simp; omega)) | ((with_reducible refine args_id ?_); simp [ArgsOk, ArgOk, argsD, argD, AC.toD, Value.oneCell', sl_flat, leaf_flat, li_flat, ls_flat, sl_agg, leaf_agg, li_agg, ls_agg, mo_t, mo_f, li_acs, ls_acs, sl_acs, GNb.acs_eq, GNb.flat_eq, GNb.agg_eq, GCell.acs_eq, GCell.flat_eq, GCell.agg_eq, GCell.el, getq_mapF, q1, r1, q2, r2]; first | done | rfl))
      refine roundB (k + 1) ?_ (show k + 1 ≤ x.cells.length by omega) (show x.cells.length - (k + 1) < x.cells.length - k by omega)
      simp [StLe', FrLe, OwnLe, BoxLe, AV.fits, AC.fits, FB, mask, hstep]
    obtain rfl : k = x.cells.length := by omega
    repeat' (first | (with_reducible first | refine awp_seq ?_ | refine awp_block ?_ | refine awp_skip ?_ | refine awp_exit ?_ | refine awp_ret ?_ | refine athen ?_ | refine thenExit ?_ | refine thenRet ?_ | refine blockNormal ?_ | refine blockExit ?_ | refine blockRet ?_ | refine roundExit ?_ | refine roundRet ?_ | refine roundExitR ?_ | refine roundRetR ?_) | ((with_reducible refine blockPass ?_ ?_); rfl) | ((with_reducible refine awp_condT ?_ ?_); rfl) | ((with_reducible refine awp_condF ?_ ?_); rfl) | (with_reducible (refine awp_condS rfl ?_ ?_); all_goals (intro hb; have hb' := hb; (try simp only [pkC] at hb'); first | (exfalso; omega) | skip)) | ((with_reducible refine awp_reg ?_); intro K hK) | ((with_reducible refine hK _ ?_); clear hK K) | (with_reducible refine and_split ?_ ?_) | ((with_reducible refine ct_id ?_); first | (refine callThen hvn trivial ?_ ?_)) | ((with_reducible refine ctd_id ?_); first | (refine callThenD hvn trivial ?_ ?_)) | ((with_reducible refine sw_id ?_); simp (disch := first | decide | omega) only [↓pkS, pkW, pkA, undef, capsOf, ex, St.put, St.ev, kav, gdA, opI, rawI, vbin, srcOf, avsD, acsD, AV.toD, AC.toD, AV.nw, AC.nw, AC.one, Value.oneCell', fillA, D.one, D.ones, D.sz, D.szs, Nat.reduceAdd, Nat.reduceSub, Nat.reduceLeDiff, Nat.reduceEqDiff, reduceIte, pkN, li_acs, ls_acs, sl_acs, GNb.acs_eq, GNb.flat_eq, GNb.agg_eq, GCell.acs_eq, GCell.flat_eq, GCell.agg_eq, GCell.el, getq_mapF]) | (first | (with_reducible rfl) | (with_reducible refine fnok_id ?_; kernel_rfl) | exact el_strs _ | exact el_ints _ | exact el_ln _ | exact el_tk _ _ | exact el_td _ _ _ | omega | (simp; done) | (simp; omega)) | ((with_reducible refine args_id ?_); simp [ArgsOk, ArgOk, argsD, argD, AC.toD, Value.oneCell', sl_flat, leaf_flat, li_flat, ls_flat, sl_agg, leaf_agg, li_agg, ls_agg, mo_t, mo_f, li_acs, ls_acs, sl_acs, GNb.acs_eq, GNb.flat_eq, GNb.agg_eq, GCell.acs_eq, GCell.flat_eq, GCell.agg_eq, GCell.el, getq_mapF]; first | done | rfl))
    exact endRet ⟨_, rfl, by rw [hres]; rfl, trivial⟩
def ic_fn_impl : IC := (.seq (.reg false [⟨(some 1), none, .box (.t 0)⟩, ⟨(some 2), none, .mov (.k (.string ⟨#[]⟩))⟩]) (.seq (.seq (.reg false [⟨(some 6), none, .load 1 true (.t 1)⟩, ⟨(some 7), none, .call 40 [(.t 6)]⟩, ⟨(some 8), none, .not (.t 7)⟩]) (.cond (.t 8) (.seq (.reg false [⟨(some 2), none, .mov (.k (.string ⟨#[]⟩))⟩]) .ret) .skip)) (.seq (.reg false [⟨(some 3), none, .mov (.k (.string ⟨#[]⟩))⟩]) (.seq (.seq (.reg false [⟨(some 9), none, .fad 0 (.t 1)⟩, ⟨(some 10), none, .load 1 false (.t 9)⟩, ⟨(some 11), none, .len false (.t 10)⟩, ⟨(some 12), none, .mov (.k (.int .i64 0))⟩]) (.block 0 (.loop (.seq (.reg false [⟨(some 13), none, .bin .lss (.t 12) (.t 11)⟩]) (.seq (.cond (.t 13) .skip (.exit 0)) (.seq (.block 1 (.seq (.reg false [⟨(some 14), none, .iad 6 (.t 10) (.t 12)⟩, ⟨(some 15), none, .load 6 true (.t 14)⟩, ⟨(some 5), none, .alloc [(.int .i64 0), (.int .i64 0), (.int .i64 0), (.string ⟨#[]⟩), (.string ⟨#[]⟩), (.int .i64 0)]⟩, ⟨none, none, .store 6 (.t 5) (.t 15)⟩]) (.reg false [⟨(some 16), none, .mov (.t 3)⟩, ⟨(some 17), none, .load 6 true (.t 5)⟩, ⟨(some 18), none, .call 12 [(.t 17)]⟩, ⟨(some 19), none, .bin .add (.t 16) (.t 18)⟩, ⟨(some 20), none, .bin .add (.t 19) (.k (.string ⟨#[10]⟩))⟩, ⟨(some 3), none, .mov (.t 20)⟩]))) (.reg false [⟨(some 21), none, .bin .add (.t 12) (.k (.int .i64 1))⟩, ⟨(some 12), none, .mov (.t 21)⟩]))))))) (.seq (.reg false [⟨(some 22), none, .mov (.t 3)⟩, ⟨(some 2), none, .mov (.t 22)⟩]) .ret)))))
theorem ic_fn_impl_ok : compC Tryd.prog (Tryd.f16.body.getD .skip) = some ic_fn_impl := by kernel_rfl
set_option maxHeartbeats 8000000 in
theorem formatNotebook_impl_to (x : GNb) (hw : D.wfs (x.cells.map GCell.toD)) (hs : ∀ c ∈ x.cells, smallC c) : CallsTo Tryd.prog 16 [x.toD] (.c false [.raw (.string (fmtNb x.cells))]) := by
  refine calls_one (fn := Tryd.f16) (t := 2) (by kernel_rfl) (by kernel_rfl) (by kernel_rfl) ic_fn_impl_ok ?_
  unfold ic_fn_impl
  change AWP _ _ _ (st0 23 _)
  simp only [undef, stS, st0, stN, D.av, D.avN, sl_agg, leaf_agg, li_agg, ls_agg, sl_acs, leaf_acs, li_acs, ls_acs, GNb.acs_eq, GNb.flat_eq, GNb.agg_eq, GCell.acs_eq, GCell.flat_eq, GCell.agg_eq, List.map_cons, List.map_nil, List.replicate, List.cons_append, List.nil_append, List.length_cons, List.length_nil, Nat.reduceAdd, Nat.reduceSub]
  have hvn := validNb_impl_to x hw
  cases hv : validNb x.cells with
  | false =>
    rw [hv] at hvn
    repeat' (first | (with_reducible first | refine awp_seq ?_ | refine awp_block ?_ | refine awp_skip ?_ | refine awp_exit ?_ | refine awp_ret ?_ | refine athen ?_ | refine thenExit ?_ | refine thenRet ?_ | refine blockNormal ?_ | refine blockExit ?_ | refine blockRet ?_ | refine roundExit ?_ | refine roundRet ?_ | refine roundExitR ?_ | refine roundRetR ?_) | ((with_reducible refine blockPass ?_ ?_); rfl) | ((with_reducible refine awp_condT ?_ ?_); rfl) | ((with_reducible refine awp_condF ?_ ?_); rfl) | (with_reducible (refine awp_condS rfl ?_ ?_); all_goals (intro hb; have hb' := hb; (try simp only [pkC] at hb'); first | (exfalso; omega) | skip)) | ((with_reducible refine awp_reg ?_); intro K hK) | ((with_reducible refine hK _ ?_); clear hK K) | (with_reducible refine and_split ?_ ?_) | ((with_reducible refine ct_id ?_); first | (refine callThen hvn trivial ?_ ?_)) | ((with_reducible refine ctd_id ?_); first | (refine callThenD hvn trivial ?_ ?_)) | ((with_reducible refine sw_id ?_); simp (disch := first | decide | omega) only [↓pkS, pkW, pkA, undef, capsOf, ex, St.put, St.ev, kav, gdA, opI, rawI, vbin, srcOf, avsD, acsD, AV.toD, AC.toD, AV.nw, AC.nw, AC.one, Value.oneCell', fillA, D.one, D.ones, D.sz, D.szs, Nat.reduceAdd, Nat.reduceSub, Nat.reduceLeDiff, Nat.reduceEqDiff, reduceIte, pkN, li_acs, ls_acs, sl_acs, GNb.acs_eq, GNb.flat_eq, GNb.agg_eq, GCell.acs_eq, GCell.flat_eq, GCell.agg_eq, GCell.el, getq_mapF]) | (first | (with_reducible rfl) | (with_reducible refine fnok_id ?_; kernel_rfl) | exact el_strs _ | exact el_ints _ | exact el_ln _ | exact el_tk _ _ | exact el_td _ _ _ | omega | (simp; done) | (simp; omega)) | ((with_reducible refine args_id ?_); simp [ArgsOk, ArgOk, argsD, argD, AC.toD, Value.oneCell', sl_flat, leaf_flat, li_flat, ls_flat, sl_agg, leaf_agg, li_agg, ls_agg, mo_t, mo_f, li_acs, ls_acs, sl_acs, GNb.acs_eq, GNb.flat_eq, GNb.agg_eq, GCell.acs_eq, GCell.flat_eq, GCell.agg_eq, GCell.el, getq_mapF]; first | done | rfl))
    exact endRet ⟨_, rfl, by unfold fmtNb; rw [hv]; rfl, trivial⟩
  | true =>
    rw [hv] at hvn
    have hn := validNb_len hv
    have hres : fmtNb x.cells = fmtK x.cells x.cells.length := by unfold fmtNb; rw [if_pos hv]
    repeat' (first | (with_reducible first | refine awp_seq ?_ | refine awp_block ?_ | refine awp_skip ?_ | refine awp_exit ?_ | refine awp_ret ?_ | refine athen ?_ | refine thenExit ?_ | refine thenRet ?_ | refine blockNormal ?_ | refine blockExit ?_ | refine blockRet ?_ | refine roundExit ?_ | refine roundRet ?_ | refine roundExitR ?_ | refine roundRetR ?_) | ((with_reducible refine blockPass ?_ ?_); rfl) | ((with_reducible refine awp_condT ?_ ?_); rfl) | ((with_reducible refine awp_condF ?_ ?_); rfl) | (with_reducible (refine awp_condS rfl ?_ ?_); all_goals (intro hb; have hb' := hb; (try simp only [pkC] at hb'); first | (exfalso; omega) | skip)) | ((with_reducible refine awp_reg ?_); intro K hK) | ((with_reducible refine hK _ ?_); clear hK K) | (with_reducible refine and_split ?_ ?_) | ((with_reducible refine ct_id ?_); first | (refine callThen hvn trivial ?_ ?_)) | ((with_reducible refine ctd_id ?_); first | (refine callThenD hvn trivial ?_ ?_)) | ((with_reducible refine sw_id ?_); simp (disch := first | decide | omega) only [↓pkS, pkW, pkA, undef, capsOf, ex, St.put, St.ev, kav, gdA, opI, rawI, vbin, srcOf, avsD, acsD, AV.toD, AC.toD, AV.nw, AC.nw, AC.one, Value.oneCell', fillA, D.one, D.ones, D.sz, D.szs, Nat.reduceAdd, Nat.reduceSub, Nat.reduceLeDiff, Nat.reduceEqDiff, reduceIte, pkN, li_acs, ls_acs, sl_acs, GNb.acs_eq, GNb.flat_eq, GNb.agg_eq, GCell.acs_eq, GCell.flat_eq, GCell.agg_eq, GCell.el, getq_mapF]) | (first | (with_reducible rfl) | (with_reducible refine fnok_id ?_; kernel_rfl) | exact el_strs _ | exact el_ints _ | exact el_ln _ | exact el_tk _ _ | exact el_td _ _ _ | omega | (simp; done) | (simp; omega)) | ((with_reducible refine args_id ?_); simp [ArgsOk, ArgOk, argsD, argD, AC.toD, Value.oneCell', sl_flat, leaf_flat, li_flat, ls_flat, sl_agg, leaf_agg, li_agg, ls_agg, mo_t, mo_f, li_acs, ls_acs, sl_acs, GNb.acs_eq, GNb.flat_eq, GNb.agg_eq, GCell.acs_eq, GCell.flat_eq, GCell.agg_eq, GCell.el, getq_mapF]; first | done | rfl))
    refine awp_loopB (X := Nat) (fun q => [.d, .v (.bptr 0 0), .d, .v (.c false [.raw (.string (fmtK x.cells q))]), .d, .d, .d, .d, .d, .d, .v (.c false [.sl false (x.cells.map GCell.toD)]), .v (.c false [.raw (.int .i64 (x.cells.length : Nat))]), .v (.c false [.raw (.int .i64 (q : Nat))]), .d, .d, .d, .d, .d, .d, .d, .d, .d, .d]) (fun q => []) (fun q bs => bs) (fun q => q ≤ x.cells.length) (fun q => x.cells.length - q) 0 (Nat.zero_le _) ?_ ?_
    · simp [StLe', FrLe, OwnLe, BoxLe, AV.fits, AC.fits, FB, mask, fmtK]
    rintro k hk
    have hk : k ≤ x.cells.length := hk
    simp only [FB, mask]
    by_cases hlt : k < x.cells.length
    · have hsc := hs _ (List.getElem_mem hlt)
      have hfc := formatCell_impl_to x.cells[k] (D.wfs_get hw (List.mem_map_of_mem (List.getElem_mem hlt))) hsc.1 hsc.2
      have hl1 := fmtK_len hs k
      have hl2 := fmtCell_len hsc
      have e5 : nlB.size = 1 := rfl
      have hstep := fmtK_step hlt
      have q1 := catf2 (a := fmtK x.cells k) (b := fmtCell x.cells[k]) (by omega)
      have r1 := catf3 (a := fmtK x.cells k) (b := fmtCell x.cells[k]) (by omega)
      have q2 := catf2 (a := fmtK x.cells k ++ fmtCell x.cells[k]) (b := nlB) (by rw [ByteArray.size_append]; omega)
      have r2 := catf3 (a := fmtK x.cells k ++ fmtCell x.cells[k]) (b := nlB) (by rw [ByteArray.size_append]; omega)
      simp only [nlB] at q2 r2 hstep
      repeat' (first | (with_reducible first | refine awp_seq ?_ | refine awp_block ?_ | refine awp_skip ?_ | refine awp_exit ?_ | refine awp_ret ?_ | refine athen ?_ | refine thenExit ?_ | refine thenRet ?_ | refine blockNormal ?_ | refine blockExit ?_ | refine blockRet ?_ | refine roundExit ?_ | refine roundRet ?_ | refine roundExitR ?_ | refine roundRetR ?_) | ((with_reducible refine blockPass ?_ ?_); rfl) | ((with_reducible refine awp_condT ?_ ?_); rfl) | ((with_reducible refine awp_condF ?_ ?_); rfl) | (with_reducible (refine awp_condS rfl ?_ ?_); all_goals (intro hb; have hb' := hb; (try simp only [pkC] at hb'); first | (exfalso; omega) | skip)) | ((with_reducible refine awp_reg ?_); intro K hK) | ((with_reducible refine hK _ ?_); clear hK K) | (with_reducible refine and_split ?_ ?_) | ((with_reducible refine ct_id ?_); first | (refine callThen hfc trivial ?_ ?_)) | ((with_reducible refine ctd_id ?_); first | (refine callThenD hfc trivial ?_ ?_)) | ((with_reducible refine sw_id ?_); simp (disch := first | decide | omega) only [↓pkS, pkW, pkA, undef, capsOf, ex, St.put, St.ev, kav, gdA, opI, rawI, vbin, srcOf, avsD, acsD, AV.toD, AC.toD, AV.nw, AC.nw, AC.one, Value.oneCell', fillA, D.one, D.ones, D.sz, D.szs, Nat.reduceAdd, Nat.reduceSub, Nat.reduceLeDiff, Nat.reduceEqDiff, reduceIte, pkN, li_acs, ls_acs, sl_acs, GNb.acs_eq, GNb.flat_eq, GNb.agg_eq, GCell.acs_eq, GCell.flat_eq, GCell.agg_eq, GCell.el, getq_mapF, q1, r1, q2, r2]) | (first | (with_reducible rfl) | (with_reducible refine fnok_id ?_; kernel_rfl) | exact el_strs _ | exact el_ints _ | exact el_ln _ | exact el_tk _ _ | exact el_td _ _ _ | omega | (simp; done) | (simp; omega)) | ((with_reducible refine args_id ?_); simp [ArgsOk, ArgOk, argsD, argD, AC.toD, Value.oneCell', sl_flat, leaf_flat, li_flat, ls_flat, sl_agg, leaf_agg, li_agg, ls_agg, mo_t, mo_f, li_acs, ls_acs, sl_acs, GNb.acs_eq, GNb.flat_eq, GNb.agg_eq, GCell.acs_eq, GCell.flat_eq, GCell.agg_eq, GCell.el, getq_mapF, q1, r1, q2, r2]; first | done | rfl))
      refine roundB (k + 1) ?_ (show k + 1 ≤ x.cells.length by omega) (show x.cells.length - (k + 1) < x.cells.length - k by omega)
      simp [StLe', FrLe, OwnLe, BoxLe, AV.fits, AC.fits, FB, mask, hstep]
    obtain rfl : k = x.cells.length := by omega
    repeat' (first | (with_reducible first | refine awp_seq ?_ | refine awp_block ?_ | refine awp_skip ?_ | refine awp_exit ?_ | refine awp_ret ?_ | refine athen ?_ | refine thenExit ?_ | refine thenRet ?_ | refine blockNormal ?_ | refine blockExit ?_ | refine blockRet ?_ | refine roundExit ?_ | refine roundRet ?_ | refine roundExitR ?_ | refine roundRetR ?_) | ((with_reducible refine blockPass ?_ ?_); rfl) | ((with_reducible refine awp_condT ?_ ?_); rfl) | ((with_reducible refine awp_condF ?_ ?_); rfl) | (with_reducible (refine awp_condS rfl ?_ ?_); all_goals (intro hb; have hb' := hb; (try simp only [pkC] at hb'); first | (exfalso; omega) | skip)) | ((with_reducible refine awp_reg ?_); intro K hK) | ((with_reducible refine hK _ ?_); clear hK K) | (with_reducible refine and_split ?_ ?_) | ((with_reducible refine ct_id ?_); first | (refine callThen hvn trivial ?_ ?_)) | ((with_reducible refine ctd_id ?_); first | (refine callThenD hvn trivial ?_ ?_)) | ((with_reducible refine sw_id ?_); simp (disch := first | decide | omega) only [↓pkS, pkW, pkA, undef, capsOf, ex, St.put, St.ev, kav, gdA, opI, rawI, vbin, srcOf, avsD, acsD, AV.toD, AC.toD, AV.nw, AC.nw, AC.one, Value.oneCell', fillA, D.one, D.ones, D.sz, D.szs, Nat.reduceAdd, Nat.reduceSub, Nat.reduceLeDiff, Nat.reduceEqDiff, reduceIte, pkN, li_acs, ls_acs, sl_acs, GNb.acs_eq, GNb.flat_eq, GNb.agg_eq, GCell.acs_eq, GCell.flat_eq, GCell.agg_eq, GCell.el, getq_mapF]) | (first | (with_reducible rfl) | (with_reducible refine fnok_id ?_; kernel_rfl) | exact el_strs _ | exact el_ints _ | exact el_ln _ | exact el_tk _ _ | exact el_td _ _ _ | omega | (simp; done) | (simp; omega)) | ((with_reducible refine args_id ?_); simp [ArgsOk, ArgOk, argsD, argD, AC.toD, Value.oneCell', sl_flat, leaf_flat, li_flat, ls_flat, sl_agg, leaf_agg, li_agg, ls_agg, mo_t, mo_f, li_acs, ls_acs, sl_acs, GNb.acs_eq, GNb.flat_eq, GNb.agg_eq, GCell.acs_eq, GCell.flat_eq, GCell.agg_eq, GCell.el, getq_mapF]; first | done | rfl))
    exact endRet ⟨_, rfl, by rw [hres]; rfl, trivial⟩
theorem formatNotebook_spec_law (x : GNb) (hw : D.wfs (x.cells.map GCell.toD)) (hs : ∀ c ∈ x.cells, smallC c) (fp : List Nat) (cs : List Value) (w : World) (h : R w x.toD fp cs) (ht : TabP w) : Calls Tryd.prog 14 #[.agg cs.toArray] w (RetB (.string (fmtNb x.cells)) w) :=
  of_raw (formatNotebook_spec_to x hw hs) (vs := [.agg cs.toArray]) ⟨rd_of_agg x.agg_eq h, trivial⟩ ht
theorem formatNotebook_impl_law (x : GNb) (hw : D.wfs (x.cells.map GCell.toD)) (hs : ∀ c ∈ x.cells, smallC c) (fp : List Nat) (cs : List Value) (w : World) (h : R w x.toD fp cs) (ht : TabP w) : Calls Tryd.prog 16 #[.agg cs.toArray] w (RetB (.string (fmtNb x.cells)) w) :=
  of_raw (formatNotebook_impl_to x hw hs) (vs := [.agg cs.toArray]) ⟨rd_of_agg x.agg_eq h, trivial⟩ ht
end Go.Proofs.YtdjcflnemnknaaaDoor

namespace Go.Proofs.YtdjcflnemnknaaaDoor
open Go.RowKit
set_option linter.unusedSimpArgs false
set_option linter.unusedVariables false
theorem agg_flat' (l : List D) : (D.agg l).flat = D.flats l := by rw [D.flat]
theorem flats_cons' (d : D) (l : List D) : D.flats (d :: l) = d.flat ++ D.flats l := by rw [D.flats]
theorem flats_nil' : D.flats [] = [] := by rw [D.flats]
theorem agg_agg' (l : List D) : (D.agg l).isAgg = true := rfl
theorem CallsTo.args {P : Program} {f : Nat} {ds ds' : List D} {r : AV} (h : CallsTo P f ds r) (hr : ∀ w vs, Rds w ds' vs → Rds w ds vs) : CallsTo P f ds' r := fun w vs h1 h2 => h w vs (hr w vs h1) h2
theorem nil_read (w : World) : Sl w [] [] (.slice none 0 0) := by
  unfold Sl
  rw [R]
  exact ⟨none, 0, rfl, Nat.le_refl _, Nat.zero_le _, Or.inl ⟨rfl, rfl⟩⟩
theorem nb_nil {w : World} {vs : List Value} (h : Rds w [.agg [.leaf (.slice none 0 0)]] vs) : Rds w [(⟨[]⟩ : GNb).toD] vs := by
  obtain ⟨v, rfl, h1⟩ := rds1 h
  obtain ⟨fp, cs, rfl, h2⟩ := rd_agg rfl h1
  rw [R, Rs_leaf] at h2
  obtain ⟨c, rfl, h3⟩ := h2
  obtain ⟨rfl, rfl⟩ := h3
  refine ⟨rd_of_agg (GNb.agg_eq _) (fp := []) (cs := [.slice none 0 0]) ?_, trivial⟩
  exact GNb.opened.2 ⟨_, [], rfl, rfl, nil_read w⟩
def nlL (s : ByteArray) : List ByteArray := cut nlB s
/-- The lines but for the last, and the last. -/
def bodyN (s : ByteArray) : List ByteArray := (nlL s).take ((nlL s).length - 1)
def lastN (s : ByteArray) : ByteArray := (nlL s).getD ((nlL s).length - 1) ⟨#[]⟩
def okC (s : ByteArray) : Bool := (parseC s).2
def cellC (s : ByteArray) : GCell := (parseC s).1
/-- The notebook that a text is of; false if there is none. -/
def parseNb (s : ByteArray) : List GCell × Bool :=
  if ((lastN s).toList == (⟨#[]⟩ : ByteArray).toList) = true then (if allL okC (bodyN s) = true then (if validNb ((bodyN s).map cellC) = true then ((bodyN s).map cellC, true) else ([], false)) else ([], false)) else ([], false)
theorem cellC_wf {s : ByteArray} (hs : s.size ≤ 1048576) : (cellC s).toD.wf := by
  unfold cellC parseC
  by_cases h : (cut spB s).length < 6
  · rw [if_pos h]
    rw [GCell.toD_eq]
    exact ⟨lit_i64 (by decide) (by decide), lit_i64 (by decide) (by decide), lit_i64 (by decide) (by decide), Nat.zero_le _, Nat.zero_le _, lit_i64 (by decide) (by decide), trivial⟩
  · rw [if_neg h]
    have h4 : (wAt (cut spB s) 4).size ≤ 1048576 := Nat.le_trans (wAt_size (by omega)) hs
    split
    · exact rawCell_wf h4 (Nat.le_trans (codeOf_size s) hs)
    · rw [GCell.toD_eq]
      exact ⟨lit_i64 (by decide) (by decide), lit_i64 (by decide) (by decide), lit_i64 (by decide) (by decide), Nat.zero_le _, Nat.zero_le _, lit_i64 (by decide) (by decide), trivial⟩
theorem wfs_of : ∀ {l : List D}, (∀ d ∈ l, d.wf) → D.wfs l
  | [], _ => trivial
  | d :: l, h => ⟨h d (by simp), wfs_of fun x hx => h x (by simp [hx])⟩
theorem take_snocF {α β : Type} (f : α → β) (l : List α) {k : Nat} (h : k < l.length) : (l.map f).take (k + 1) = (l.map f).take k ++ [f l[k]] := by
  rw [List.take_succ_eq_append_getElem (by simpa using h), List.getElem_map]
def ic_pnb_spec : IC := (.seq (.reg false [⟨(some 2), none, .alloc [(.slice none 0 0)]⟩, ⟨(some 3), none, .mov (.k (.bool false))⟩]) (.seq (.reg false [⟨(some 9), none, .mov (.t 0)⟩, ⟨(some 10), none, .call 54 [(.t 9), (.k (.int .u8 10))]⟩, ⟨(some 4), none, .mov (.t 10)⟩]) (.seq (.reg false [⟨(some 11), none, .bld [(.slice none 0 0)] []⟩, ⟨(some 5), none, .alloc [(.slice none 0 0)]⟩, ⟨none, none, .store 1 (.t 5) (.t 11)⟩]) (.seq (.seq (.reg false [⟨(some 12), none, .mov (.t 4)⟩, ⟨(some 13), none, .mov (.t 4)⟩, ⟨(some 14), none, .len false (.t 13)⟩, ⟨(some 15), none, .bin .sub (.t 14) (.k (.int .i64 1))⟩, ⟨(some 16), none, .iad 1 (.t 12) (.t 15)⟩, ⟨(some 17), none, .load 1 false (.t 16)⟩, ⟨(some 18), none, .bin .neq (.t 17) (.k (.string ⟨#[]⟩))⟩]) (.cond (.t 18) (.seq (.reg false [⟨(some 19), none, .load 1 true (.t 5)⟩, ⟨none, none, .store 1 (.t 2) (.t 19)⟩, ⟨(some 3), none, .mov (.k (.bool false))⟩]) .ret) .skip)) (.seq (.seq (.reg false [⟨(some 6), none, .mov (.k (.int .i64 0))⟩]) (.block 0 (.loop (.seq (.seq (.reg false [⟨(some 20), none, .mov (.t 6)⟩, ⟨(some 21), none, .mov (.t 4)⟩, ⟨(some 22), none, .len false (.t 21)⟩, ⟨(some 23), none, .bin .sub (.t 22) (.k (.int .i64 1))⟩, ⟨(some 24), none, .bin .lss (.t 20) (.t 23)⟩]) (.cond (.t 24) .skip (.exit 0))) (.seq (.block 1 (.seq (.reg false [⟨(some 28), none, .mov (.t 4)⟩, ⟨(some 29), none, .mov (.t 6)⟩, ⟨(some 30), none, .iad 1 (.t 28) (.t 29)⟩, ⟨(some 31), none, .load 1 false (.t 30)⟩, ⟨(some 32), none, .call 23 [(.t 31)]⟩, ⟨(some 27), none, .mov (.t 32)⟩, ⟨(some 33), none, .ext 0 (.t 27)⟩, ⟨(some 34), none, .ext 1 (.t 27)⟩, ⟨(some 7), none, .alloc [(.int .i64 0), (.int .i64 0), (.int .i64 0), (.string ⟨#[]⟩), (.string ⟨#[]⟩), (.int .i64 0)]⟩, ⟨none, none, .store 6 (.t 7) (.t 33)⟩, ⟨(some 8), none, .mov (.t 34)⟩]) (.seq (.seq (.reg false [⟨(some 35), none, .mov (.t 8)⟩, ⟨(some 36), none, .not (.t 35)⟩]) (.cond (.t 36) (.seq (.reg false [⟨(some 37), none, .bld [(.slice none 0 0)] []⟩, ⟨none, none, .store 1 (.t 2) (.t 37)⟩, ⟨(some 3), none, .mov (.k (.bool false))⟩]) .ret) .skip)) (.reg false [⟨(some 38), none, .fad 0 (.t 5)⟩, ⟨(some 39), none, .load 1 false (.t 38)⟩, ⟨(some 40), none, .load 6 true (.t 7)⟩, ⟨(some 41), none, .brow false 26 6 1 false [(.t 40)]⟩, ⟨(some 42), none, .app 26 6 (.t 39) (.t 41)⟩, ⟨(some 43), none, .fad 0 (.t 5)⟩, ⟨none, none, .store 1 (.t 43) (.t 42)⟩])))) (.reg false [⟨(some 25), none, .mov (.t 6)⟩, ⟨(some 26), none, .bin .add (.t 25) (.k (.int .i64 1))⟩, ⟨(some 6), none, .mov (.t 26)⟩])))))) (.seq (.seq (.reg false [⟨(some 44), none, .load 1 true (.t 5)⟩, ⟨(some 45), none, .call 38 [(.t 44)]⟩, ⟨(some 46), none, .not (.t 45)⟩]) (.cond (.t 46) (.seq (.reg false [⟨(some 47), none, .bld [(.slice none 0 0)] []⟩, ⟨none, none, .store 1 (.t 2) (.t 47)⟩, ⟨(some 3), none, .mov (.k (.bool false))⟩]) .ret) .skip)) (.seq (.reg false [⟨(some 48), none, .load 1 true (.t 5)⟩, ⟨none, none, .store 1 (.t 2) (.t 48)⟩, ⟨(some 3), none, .mov (.k (.bool true))⟩]) .ret)))))))
theorem ic_pnb_spec_ok : compC Tryd.prog (Tryd.f28.body.getD .skip) = some ic_pnb_spec := by kernel_rfl
set_option maxHeartbeats 16000000 in
theorem parseNb_spec_to (s : ByteArray) (hs : s.size ≤ 1048576) : CallsTo Tryd.prog 28 [ls s] (.tup [(true, [.sl true ((parseNb s).1.map GCell.toD)]), (false, [.raw (.bool (parseNb s).2)])]) := by
  refine calls_two (fn := Tryd.f28) (r := .cell 2 36) (q := .tmp 3) (by kernel_rfl) (by kernel_rfl) (by kernel_rfl) (by kernel_rfl) ic_pnb_spec_ok ?_
  unfold ic_pnb_spec
  change AWP _ _ _ (st0 49 _)
  simp only [undef, stS, st0, stN, D.av, D.avN, sl_agg, leaf_agg, li_agg, ls_agg, sl_acs, leaf_acs, li_acs, ls_acs, List.map_cons, List.map_nil, List.replicate, List.cons_append, List.nil_append, List.length_cons, List.length_nil, Nat.reduceAdd, Nat.reduceSub]
  obtain ⟨lines, hlines⟩ : ∃ l, nlL s = l := ⟨_, rfl⟩
  have hsp : CallsTo Tryd.prog 54 [ls s, .leaf (.int .u8 10)] (.c false [.sl true (lines.map ls)]) := by
    rw [← hlines]
    exact splitByte_spec_to s 10 hs
  have hne : 0 < lines.length := by rw [← hlines]; exact List.length_pos_iff.2 (cut_ne _ _)
  have hlz : lines.length ≤ 1048577 := by have := cut_le nlB s (by decide); rw [← hlines]; unfold nlL; omega
  obtain ⟨bd, hbd⟩ : ∃ b, bodyN s = b := ⟨_, rfl⟩
  have hbe : lines.take (lines.length - 1) = bd := by rw [← hbd, ← hlines]; rfl
  have hbn : bd.length = lines.length - 1 := by rw [← hbe, List.length_take]; omega
  have hbz : ∀ x ∈ bd, x.size ≤ 1048576 := fun x hx => by
    rw [← hbe] at hx
    have h1 := List.mem_of_mem_take hx
    rw [← hlines] at h1
    have := cut_piece (sep := nlB) (by decide) h1
    omega
  have hget : ∀ k (h : k < bd.length), bd[k] = lines[k]'(by omega) := fun k h => by
    have : bd[k]? = lines[k]? := by rw [← hbe, List.getElem?_take_of_lt (by omega)]
    rw [List.getElem?_eq_getElem h, List.getElem?_eq_getElem (by omega)] at this
    exact Option.some.inj this
  have hw1 : IntKind.i64.wrap ((lines.length : Int) - 1) = ((bd.length : Nat) : Int) := by rw [wrap_id (by omega) (by omega)]; omega
  have hT : (lines.map ls).take bd.length = bd.map ls := by rw [← List.map_take, hbn, hbe]
  have hbl : subB none (some ((bd.length : Nat) : Int)) lines.length = some (0, bd.length) := subB_to (by omega)
  have hmin : min bd.length lines.length = bd.length := by omega
  have hL : idx (lines.map ls) (some ((bd.length : Nat) : Int)) = some (ls (lastN s)) := by
    rw [idx_map ls lines (by omega)]
    unfold lastN
    rw [hlines, ← hbn, List.getD_eq_getElem?_getD, List.getElem?_eq_getElem (by omega)]
    rfl
  have hcw : ∀ x ∈ bd.map cellC, x.toD.wf := fun x hx => by
    obtain ⟨y, hy, rfl⟩ := List.mem_map.1 hx
    exact cellC_wf (hbz y hy)
  cases hq : ((lastN s).toList == (⟨#[]⟩ : ByteArray).toList) with
  | false =>
    have hr : parseNb s = ([], false) := by unfold parseNb; rw [hq]; rfl
    rw [hr]
    repeat' (first | (with_reducible first | refine awp_seq ?_ | refine awp_block ?_ | refine awp_skip ?_ | refine awp_exit ?_ | refine awp_ret ?_ | refine athen ?_ | refine thenExit ?_ | refine thenRet ?_ | refine blockNormal ?_ | refine blockExit ?_ | refine blockRet ?_ | refine roundExit ?_ | refine roundRet ?_ | refine roundExitR ?_ | refine roundRetR ?_) | ((with_reducible refine blockPass ?_ ?_); rfl) | ((with_reducible refine awp_condT ?_ ?_); rfl) | ((with_reducible refine awp_condF ?_ ?_); rfl) | (with_reducible (refine awp_condS rfl ?_ ?_); all_goals (intro hb; have hb' := hb; (try simp only [pkC] at hb'); first | (exfalso; omega) | skip)) | ((with_reducible refine awp_reg ?_); intro K hK) | ((with_reducible refine hK _ ?_); clear hK K) | (with_reducible refine and_split ?_ ?_) | ((with_reducible refine ct_id ?_); first | (refine callThen hsp trivial ?_ ?_)) | ((with_reducible refine ctd_id ?_); first | (refine callThenD hsp trivial ?_ ?_)) | ((with_reducible refine sw_id ?_); simp (disch := first | decide | omega) only [↓pkS, pkW, pkA, undef, capsOf, ex, St.put, St.ev, kav, gdA, opI, rawI, vbin, srcOf, avsD, acsD, AV.toD, AC.toD, AV.nw, AC.nw, AC.one, Value.oneCell', fillA, D.one, D.ones, D.sz, D.szs, Nat.reduceAdd, Nat.reduceSub, Nat.reduceLeDiff, Nat.reduceEqDiff, reduceIte, pkN, li_acs, ls_acs, sl_acs, GCell.acs_eq, GCell.flat_eq, GCell.agg_eq, GCell.el, GNb.acs_eq, GNb.flat_eq, GNb.agg_eq, el_ints, el_strs, hw1, hT, hbl, hL, hmin, hq, List.drop_zero]) | (first | (with_reducible rfl) | (with_reducible refine fnok_id ?_; kernel_rfl) | exact el_strs _ | exact el_ints _ | exact el_ln _ | exact el_tk _ _ | exact el_td _ _ _ | omega | (simp; done) | (simp; omega)) | ((with_reducible refine args_id ?_); simp [ArgsOk, ArgOk, argsD, argD, AC.toD, Value.oneCell', sl_flat, leaf_flat, li_flat, ls_flat, sl_agg, leaf_agg, li_agg, ls_agg, mo_t, mo_f, li_acs, ls_acs, sl_acs, GCell.acs_eq, GCell.flat_eq, GCell.agg_eq, GCell.el, GNb.acs_eq, GNb.flat_eq, GNb.agg_eq, el_ints, el_strs, hw1, hT, hbl, hL, hmin, hq, List.drop_zero]; first | done | rfl))
    exact endRet ⟨⟨0, _, rfl, rfl, ⟨rfl, rfl⟩, trivial⟩, ⟨_, rfl, rfl, trivial⟩⟩
  | true =>
  repeat' (first | (with_reducible first | refine awp_seq ?_ | refine awp_block ?_ | refine awp_skip ?_ | refine awp_exit ?_ | refine awp_ret ?_ | refine athen ?_ | refine thenExit ?_ | refine thenRet ?_ | refine blockNormal ?_ | refine blockExit ?_ | refine blockRet ?_ | refine roundExit ?_ | refine roundRet ?_ | refine roundExitR ?_ | refine roundRetR ?_) | ((with_reducible refine blockPass ?_ ?_); rfl) | ((with_reducible refine awp_condT ?_ ?_); rfl) | ((with_reducible refine awp_condF ?_ ?_); rfl) | (with_reducible (refine awp_condS rfl ?_ ?_); all_goals (intro hb; have hb' := hb; (try simp only [pkC] at hb'); first | (exfalso; omega) | skip)) | ((with_reducible refine awp_reg ?_); intro K hK) | ((with_reducible refine hK _ ?_); clear hK K) | (with_reducible refine and_split ?_ ?_) | ((with_reducible refine ct_id ?_); first | (refine callThen hsp trivial ?_ ?_)) | ((with_reducible refine ctd_id ?_); first | (refine callThenD hsp trivial ?_ ?_)) | ((with_reducible refine sw_id ?_); simp (disch := first | decide | omega) only [↓pkS, pkW, pkA, undef, capsOf, ex, St.put, St.ev, kav, gdA, opI, rawI, vbin, srcOf, avsD, acsD, AV.toD, AC.toD, AV.nw, AC.nw, AC.one, Value.oneCell', fillA, D.one, D.ones, D.sz, D.szs, Nat.reduceAdd, Nat.reduceSub, Nat.reduceLeDiff, Nat.reduceEqDiff, reduceIte, pkN, li_acs, ls_acs, sl_acs, GCell.acs_eq, GCell.flat_eq, GCell.agg_eq, GCell.el, GNb.acs_eq, GNb.flat_eq, GNb.agg_eq, el_ints, el_strs, hw1, hT, hbl, hL, hmin, hq, List.drop_zero]) | (first | (with_reducible rfl) | (with_reducible refine fnok_id ?_; kernel_rfl) | exact el_strs _ | exact el_ints _ | exact el_ln _ | exact el_tk _ _ | exact el_td _ _ _ | omega | (simp; done) | (simp; omega)) | ((with_reducible refine args_id ?_); simp [ArgsOk, ArgOk, argsD, argD, AC.toD, Value.oneCell', sl_flat, leaf_flat, li_flat, ls_flat, sl_agg, leaf_agg, li_agg, ls_agg, mo_t, mo_f, li_acs, ls_acs, sl_acs, GCell.acs_eq, GCell.flat_eq, GCell.agg_eq, GCell.el, GNb.acs_eq, GNb.flat_eq, GNb.agg_eq, el_ints, el_strs, hw1, hT, hbl, hL, hmin, hq, List.drop_zero]; first | done | rfl))
  refine awp_loopB (X := Nat × Option Nat) (fun q => [.d, .d, .k, .d, .k, .k, .v (.c false [.raw (.int .i64 (q.1 : Nat))]), .d, .d, .d, .d, .d, .d, .d, .d, .d, .d, .d, .d, .d, .d, .d, .d, .d, .d, .d, .d, .d, .d, .d, .d, .d, .d, .d, .d, .d, .d, .d, .d, .d, .d, .d, .d, .d, .d, .d, .d, .d, .d]) (fun q => match q.2 with | none => [] | some w => [⟨((bd.map (GCell.toD ∘ cellC)).take q.1), 26, 6, w, true⟩]) (fun q bs => [[.raw (.slice none 0 0)], [match q.2 with | none => .raw (.slice none 0 0) | some w => .own 0 w]]) (fun q => q.1 ≤ bd.length ∧ allN (pAt okC bd) q.1 = true ∧ (match q.2 with | none => q.1 = 0 | some _ => 0 < q.1)) (fun q => bd.length - q.1) (0, none) ⟨Nat.zero_le _, rfl, rfl⟩ ?_ ?_
  · simp [StLe', FrLe, OwnLe, BoxLe, AV.fits, AC.fits, FB, mask]
  rintro ⟨k, _ | v⟩ ⟨hk, hall, hk0⟩
  · simp only at hk hall hk0
    subst hk0
    simp only [FB, mask]
    by_cases hlk : 0 < bd.length
    · have hpc := parseCell_spec_to bd[0] (hbz _ (List.getElem_mem hlk))
      have hg : idx (lines.map ls) (some ((0 : Nat) : Int)) = some (ls bd[0]) := by rw [idx_map ls lines (by omega)]; congr 2; exact (hget 0 hlk).symm
      rw [GCell.acs_eq] at hpc
      have hcc : (parseC bd[0]).1 = cellC bd[0] := rfl
      rw [hcc] at hpc
      cases hh : okC bd[0] with
      | false =>
        have hpb : (parseC bd[0]).2 = false := hh
        rw [hpb] at hpc
        have hr : parseNb s = ([], false) := by unfold parseNb; rw [hq, hbd, allL_false hlk hh]; rfl
        rw [hr]
        repeat' (first | (with_reducible first | refine awp_seq ?_ | refine awp_block ?_ | refine awp_skip ?_ | refine awp_exit ?_ | refine awp_ret ?_ | refine athen ?_ | refine thenExit ?_ | refine thenRet ?_ | refine blockNormal ?_ | refine blockExit ?_ | refine blockRet ?_ | refine roundExit ?_ | refine roundRet ?_ | refine roundExitR ?_ | refine roundRetR ?_) | ((with_reducible refine blockPass ?_ ?_); rfl) | ((with_reducible refine awp_condT ?_ ?_); rfl) | ((with_reducible refine awp_condF ?_ ?_); rfl) | (with_reducible (refine awp_condS rfl ?_ ?_); all_goals (intro hb; have hb' := hb; (try simp only [pkC] at hb'); first | (exfalso; omega) | skip)) | ((with_reducible refine awp_reg ?_); intro K hK) | ((with_reducible refine hK _ ?_); clear hK K) | (with_reducible refine and_split ?_ ?_) | ((with_reducible refine ct_id ?_); first | (refine callThen hpc trivial ?_ ?_)) | ((with_reducible refine ctd_id ?_); first | (refine callThenD hpc trivial ?_ ?_)) | ((with_reducible refine sw_id ?_); simp (disch := first | decide | omega) only [↓pkS, pkW, pkA, undef, capsOf, ex, St.put, St.ev, kav, gdA, opI, rawI, vbin, srcOf, avsD, acsD, AV.toD, AC.toD, AV.nw, AC.nw, AC.one, Value.oneCell', fillA, D.one, D.ones, D.sz, D.szs, Nat.reduceAdd, Nat.reduceSub, Nat.reduceLeDiff, Nat.reduceEqDiff, reduceIte, pkN, li_acs, ls_acs, sl_acs, GCell.acs_eq, GCell.flat_eq, GCell.agg_eq, GCell.el, GNb.acs_eq, GNb.flat_eq, GNb.agg_eq, el_ints, el_strs, hw1, hT, hbl, hL, hmin, hq, List.drop_zero, hg]) | (first | (with_reducible rfl) | (with_reducible refine fnok_id ?_; kernel_rfl) | exact el_strs _ | exact el_ints _ | exact el_ln _ | exact el_tk _ _ | exact el_td _ _ _ | omega | (simp; done) | (simp; omega)) | ((with_reducible refine args_id ?_); simp [ArgsOk, ArgOk, argsD, argD, AC.toD, Value.oneCell', sl_flat, leaf_flat, li_flat, ls_flat, sl_agg, leaf_agg, li_agg, ls_agg, mo_t, mo_f, li_acs, ls_acs, sl_acs, GCell.acs_eq, GCell.flat_eq, GCell.agg_eq, GCell.el, GNb.acs_eq, GNb.flat_eq, GNb.agg_eq, el_ints, el_strs, hw1, hT, hbl, hL, hmin, hq, List.drop_zero, hg]; first | done | rfl))
        exact endRet ⟨⟨0, _, rfl, rfl, ⟨rfl, rfl⟩, trivial⟩, ⟨_, rfl, rfl, trivial⟩⟩
      | true =>
        have hpb : (parseC bd[0]).2 = true := hh
        rw [hpb] at hpc
        have hs1 := allN_succ hall ((pAt_eq okC hlk).trans hh)
        have htk := take_snocF (GCell.toD ∘ cellC) bd hlk
        repeat' (first | (with_reducible first | refine awp_seq ?_ | refine awp_block ?_ | refine awp_skip ?_ | refine awp_exit ?_ | refine awp_ret ?_ | refine athen ?_ | refine thenExit ?_ | refine thenRet ?_ | refine blockNormal ?_ | refine blockExit ?_ | refine blockRet ?_ | refine roundExit ?_ | refine roundRet ?_ | refine roundExitR ?_ | refine roundRetR ?_) | ((with_reducible refine blockPass ?_ ?_); rfl) | ((with_reducible refine awp_condT ?_ ?_); rfl) | ((with_reducible refine awp_condF ?_ ?_); rfl) | (with_reducible (refine awp_condS rfl ?_ ?_); all_goals (intro hb; have hb' := hb; (try simp only [pkC] at hb'); first | (exfalso; omega) | skip)) | ((with_reducible refine awp_reg ?_); intro K hK) | ((with_reducible refine hK _ ?_); clear hK K) | (with_reducible refine and_split ?_ ?_) | ((with_reducible refine ct_id ?_); first | (refine callThen hpc trivial ?_ ?_)) | ((with_reducible refine ctd_id ?_); first | (refine callThenD hpc trivial ?_ ?_)) | ((with_reducible refine sw_id ?_); simp (disch := first | decide | omega) only [↓pkS, pkW, pkA, undef, capsOf, ex, St.put, St.ev, kav, gdA, opI, rawI, vbin, srcOf, avsD, acsD, AV.toD, AC.toD, AV.nw, AC.nw, AC.one, Value.oneCell', fillA, D.one, D.ones, D.sz, D.szs, Nat.reduceAdd, Nat.reduceSub, Nat.reduceLeDiff, Nat.reduceEqDiff, reduceIte, pkN, li_acs, ls_acs, sl_acs, GCell.acs_eq, GCell.flat_eq, GCell.agg_eq, GCell.el, GNb.acs_eq, GNb.flat_eq, GNb.agg_eq, el_ints, el_strs, hw1, hT, hbl, hL, hmin, hq, List.drop_zero, hg]) | (first | (with_reducible rfl) | (with_reducible refine fnok_id ?_; kernel_rfl) | exact el_strs _ | exact el_ints _ | exact el_ln _ | exact el_tk _ _ | exact el_td _ _ _ | omega | (simp; done) | (simp; omega)) | ((with_reducible refine args_id ?_); simp [ArgsOk, ArgOk, argsD, argD, AC.toD, Value.oneCell', sl_flat, leaf_flat, li_flat, ls_flat, sl_agg, leaf_agg, li_agg, ls_agg, mo_t, mo_f, li_acs, ls_acs, sl_acs, GCell.acs_eq, GCell.flat_eq, GCell.agg_eq, GCell.el, GNb.acs_eq, GNb.flat_eq, GNb.agg_eq, el_ints, el_strs, hw1, hT, hbl, hL, hmin, hq, List.drop_zero, hg]; first | done | rfl))
        all_goals first
          | (simp only [List.length_map, List.length_append, List.length_cons, List.length_nil, List.length_take]; omega)
          | (refine roundB (1, some (0)) ?_ ⟨show 1 ≤ bd.length by omega, hs1, Nat.succ_pos _⟩ (show bd.length - (1) < bd.length - 0 by omega)
             simp only [List.map_map, StLe', FrLe, OwnLe, BoxLe, AV.fits, AC.fits, FB, mask]
             simp [AV.fits, AC.fits, OwnLe, htk, GCell.toD_eq, li, ls, -List.take_append_getElem])
    have hb0 : bodyN s = [] := by rw [hbd]; exact List.eq_nil_of_length_eq_zero (by omega)
    have hbl0 : bd.length = 0 := by omega
    have hv : validNb [] = true := rfl
    have hvn0 : CallsTo Tryd.prog 38 [.agg [.leaf (.slice none 0 0)]] (.c false [.raw (.bool true)]) := CallsTo.args (validNb_spec_to ⟨[]⟩ trivial) (fun w vs h => nb_nil h)
    have hr : parseNb s = ([], true) := by unfold parseNb; rw [hq, hb0]; rfl
    rw [hr]
    repeat' (first | (with_reducible first | refine awp_seq ?_ | refine awp_block ?_ | refine awp_skip ?_ | refine awp_exit ?_ | refine awp_ret ?_ | refine athen ?_ | refine thenExit ?_ | refine thenRet ?_ | refine blockNormal ?_ | refine blockExit ?_ | refine blockRet ?_ | refine roundExit ?_ | refine roundRet ?_ | refine roundExitR ?_ | refine roundRetR ?_) | ((with_reducible refine blockPass ?_ ?_); rfl) | ((with_reducible refine awp_condT ?_ ?_); rfl) | ((with_reducible refine awp_condF ?_ ?_); rfl) | (with_reducible (refine awp_condS rfl ?_ ?_); all_goals (intro hb; have hb' := hb; (try simp only [pkC] at hb'); first | (exfalso; omega) | skip)) | ((with_reducible refine awp_reg ?_); intro K hK) | ((with_reducible refine hK _ ?_); clear hK K) | (with_reducible refine and_split ?_ ?_) | ((with_reducible refine ct_id ?_); first | (refine callThen hvn0 trivial ?_ ?_)) | ((with_reducible refine ctd_id ?_); first | (refine callThenD hvn0 trivial ?_ ?_)) | ((with_reducible refine sw_id ?_); simp (disch := first | decide | omega) only [↓pkS, pkW, pkA, undef, capsOf, ex, St.put, St.ev, kav, gdA, opI, rawI, vbin, srcOf, avsD, acsD, AV.toD, AC.toD, AV.nw, AC.nw, AC.one, Value.oneCell', fillA, D.one, D.ones, D.sz, D.szs, Nat.reduceAdd, Nat.reduceSub, Nat.reduceLeDiff, Nat.reduceEqDiff, reduceIte, pkN, li_acs, ls_acs, sl_acs, GCell.acs_eq, GCell.flat_eq, GCell.agg_eq, GCell.el, GNb.acs_eq, GNb.flat_eq, GNb.agg_eq, el_ints, el_strs, hw1, hT, hbl, hL, hmin, hq, List.drop_zero, hv, agg_flat', flats_cons', flats_nil', agg_agg']) | (first | (with_reducible rfl) | (with_reducible refine fnok_id ?_; kernel_rfl) | exact el_strs _ | exact el_ints _ | exact el_ln _ | exact el_tk _ _ | exact el_td _ _ _ | omega | (simp; done) | (simp; omega)) | ((with_reducible refine args_id ?_); simp [ArgsOk, ArgOk, argsD, argD, AC.toD, Value.oneCell', sl_flat, leaf_flat, li_flat, ls_flat, sl_agg, leaf_agg, li_agg, ls_agg, mo_t, mo_f, li_acs, ls_acs, sl_acs, GCell.acs_eq, GCell.flat_eq, GCell.agg_eq, GCell.el, GNb.acs_eq, GNb.flat_eq, GNb.agg_eq, el_ints, el_strs, hw1, hT, hbl, hL, hmin, hq, List.drop_zero, hv, agg_flat', flats_cons', flats_nil', agg_agg']; first | done | rfl))
    exact endRet ⟨⟨0, _, rfl, rfl, ⟨rfl, rfl⟩, trivial⟩, ⟨_, rfl, rfl, trivial⟩⟩
  · simp only at hk hall hk0
    simp only [FB, mask]
    by_cases hlk : k < bd.length
    · have hpc := parseCell_spec_to bd[k] (hbz _ (List.getElem_mem hlk))
      have hg : idx (lines.map ls) (some ((k : Nat) : Int)) = some (ls bd[k]) := by rw [idx_map ls lines (by omega)]; congr 2; exact (hget k hlk).symm
      rw [GCell.acs_eq] at hpc
      have hcc : (parseC bd[k]).1 = cellC bd[k] := rfl
      rw [hcc] at hpc
      cases hh : okC bd[k] with
      | false =>
        have hpb : (parseC bd[k]).2 = false := hh
        rw [hpb] at hpc
        have hr : parseNb s = ([], false) := by unfold parseNb; rw [hq, hbd, allL_false hlk hh]; rfl
        rw [hr]
        repeat' (first | (with_reducible first | refine awp_seq ?_ | refine awp_block ?_ | refine awp_skip ?_ | refine awp_exit ?_ | refine awp_ret ?_ | refine athen ?_ | refine thenExit ?_ | refine thenRet ?_ | refine blockNormal ?_ | refine blockExit ?_ | refine blockRet ?_ | refine roundExit ?_ | refine roundRet ?_ | refine roundExitR ?_ | refine roundRetR ?_) | ((with_reducible refine blockPass ?_ ?_); rfl) | ((with_reducible refine awp_condT ?_ ?_); rfl) | ((with_reducible refine awp_condF ?_ ?_); rfl) | (with_reducible (refine awp_condS rfl ?_ ?_); all_goals (intro hb; have hb' := hb; (try simp only [pkC] at hb'); first | (exfalso; omega) | skip)) | ((with_reducible refine awp_reg ?_); intro K hK) | ((with_reducible refine hK _ ?_); clear hK K) | (with_reducible refine and_split ?_ ?_) | ((with_reducible refine ct_id ?_); first | (refine callThen hpc trivial ?_ ?_)) | ((with_reducible refine ctd_id ?_); first | (refine callThenD hpc trivial ?_ ?_)) | ((with_reducible refine sw_id ?_); simp (disch := first | decide | omega) only [↓pkS, pkW, pkA, undef, capsOf, ex, St.put, St.ev, kav, gdA, opI, rawI, vbin, srcOf, avsD, acsD, AV.toD, AC.toD, AV.nw, AC.nw, AC.one, Value.oneCell', fillA, D.one, D.ones, D.sz, D.szs, Nat.reduceAdd, Nat.reduceSub, Nat.reduceLeDiff, Nat.reduceEqDiff, reduceIte, pkN, li_acs, ls_acs, sl_acs, GCell.acs_eq, GCell.flat_eq, GCell.agg_eq, GCell.el, GNb.acs_eq, GNb.flat_eq, GNb.agg_eq, el_ints, el_strs, hw1, hT, hbl, hL, hmin, hq, List.drop_zero, hg]) | (first | (with_reducible rfl) | (with_reducible refine fnok_id ?_; kernel_rfl) | exact el_strs _ | exact el_ints _ | exact el_ln _ | exact el_tk _ _ | exact el_td _ _ _ | omega | (simp; done) | (simp; omega)) | ((with_reducible refine args_id ?_); simp [ArgsOk, ArgOk, argsD, argD, AC.toD, Value.oneCell', sl_flat, leaf_flat, li_flat, ls_flat, sl_agg, leaf_agg, li_agg, ls_agg, mo_t, mo_f, li_acs, ls_acs, sl_acs, GCell.acs_eq, GCell.flat_eq, GCell.agg_eq, GCell.el, GNb.acs_eq, GNb.flat_eq, GNb.agg_eq, el_ints, el_strs, hw1, hT, hbl, hL, hmin, hq, List.drop_zero, hg]; first | done | rfl))
        exact endRet ⟨⟨0, _, rfl, rfl, ⟨rfl, rfl⟩, trivial⟩, ⟨_, rfl, rfl, trivial⟩⟩
      | true =>
        have hpb : (parseC bd[k]).2 = true := hh
        rw [hpb] at hpc
        have hs1 := allN_succ hall ((pAt_eq okC hlk).trans hh)
        have htk := take_snocF (GCell.toD ∘ cellC) bd hlk
        repeat' (first | (with_reducible first | refine awp_seq ?_ | refine awp_block ?_ | refine awp_skip ?_ | refine awp_exit ?_ | refine awp_ret ?_ | refine athen ?_ | refine thenExit ?_ | refine thenRet ?_ | refine blockNormal ?_ | refine blockExit ?_ | refine blockRet ?_ | refine roundExit ?_ | refine roundRet ?_ | refine roundExitR ?_ | refine roundRetR ?_) | ((with_reducible refine blockPass ?_ ?_); rfl) | ((with_reducible refine awp_condT ?_ ?_); rfl) | ((with_reducible refine awp_condF ?_ ?_); rfl) | (with_reducible (refine awp_condS rfl ?_ ?_); all_goals (intro hb; have hb' := hb; (try simp only [pkC] at hb'); first | (exfalso; omega) | skip)) | ((with_reducible refine awp_reg ?_); intro K hK) | ((with_reducible refine hK _ ?_); clear hK K) | (with_reducible refine and_split ?_ ?_) | ((with_reducible refine ct_id ?_); first | (refine callThen hpc trivial ?_ ?_)) | ((with_reducible refine ctd_id ?_); first | (refine callThenD hpc trivial ?_ ?_)) | ((with_reducible refine sw_id ?_); simp (disch := first | decide | omega) only [↓pkS, pkW, pkA, undef, capsOf, ex, St.put, St.ev, kav, gdA, opI, rawI, vbin, srcOf, avsD, acsD, AV.toD, AC.toD, AV.nw, AC.nw, AC.one, Value.oneCell', fillA, D.one, D.ones, D.sz, D.szs, Nat.reduceAdd, Nat.reduceSub, Nat.reduceLeDiff, Nat.reduceEqDiff, reduceIte, pkN, li_acs, ls_acs, sl_acs, GCell.acs_eq, GCell.flat_eq, GCell.agg_eq, GCell.el, GNb.acs_eq, GNb.flat_eq, GNb.agg_eq, el_ints, el_strs, hw1, hT, hbl, hL, hmin, hq, List.drop_zero, hg]) | (first | (with_reducible rfl) | (with_reducible refine fnok_id ?_; kernel_rfl) | exact el_strs _ | exact el_ints _ | exact el_ln _ | exact el_tk _ _ | exact el_td _ _ _ | omega | (simp; done) | (simp; omega)) | ((with_reducible refine args_id ?_); simp [ArgsOk, ArgOk, argsD, argD, AC.toD, Value.oneCell', sl_flat, leaf_flat, li_flat, ls_flat, sl_agg, leaf_agg, li_agg, ls_agg, mo_t, mo_f, li_acs, ls_acs, sl_acs, GCell.acs_eq, GCell.flat_eq, GCell.agg_eq, GCell.el, GNb.acs_eq, GNb.flat_eq, GNb.agg_eq, el_ints, el_strs, hw1, hT, hbl, hL, hmin, hq, List.drop_zero, hg]; first | done | rfl))
        all_goals first
          | (simp only [List.length_map, List.length_append, List.length_cons, List.length_nil, List.length_take]; omega)
          | (refine roundB (k + 1, some (v + 1)) ?_ ⟨show k + 1 ≤ bd.length by omega, hs1, Nat.succ_pos _⟩ (show bd.length - (k + 1) < bd.length - k by omega)
             simp only [List.map_map, StLe', FrLe, OwnLe, BoxLe, AV.fits, AC.fits, FB, mask]
             simp [AV.fits, AC.fits, OwnLe, htk, GCell.toD_eq, li, ls, -List.take_append_getElem])
    obtain rfl : k = bd.length := by omega
    have hfin : (bd.map (GCell.toD ∘ cellC)).take bd.length = (bd.map cellC).map GCell.toD := by rw [List.take_of_length_le (by rw [List.length_map]; exact Nat.le_refl _), List.map_map]
    have hall : allL okC bd = true := hall
    have hvn := validNb_spec_to ⟨bd.map cellC⟩ (wfs_of fun d hd => by obtain ⟨x, hx, rfl⟩ := List.mem_map.1 hd; exact hcw x hx)
    simp only at hvn
    rw [GNb.toD_eq, ← hfin] at hvn
    cases hv : validNb (bd.map cellC) with
    | false =>
      rw [hv] at hvn
      have hr : parseNb s = ([], false) := by unfold parseNb; rw [hq, hbd, hall, hv]; rfl
      rw [hr]
      repeat' (first | (with_reducible first | refine awp_seq ?_ | refine awp_block ?_ | refine awp_skip ?_ | refine awp_exit ?_ | refine awp_ret ?_ | refine athen ?_ | refine thenExit ?_ | refine thenRet ?_ | refine blockNormal ?_ | refine blockExit ?_ | refine blockRet ?_ | refine roundExit ?_ | refine roundRet ?_ | refine roundExitR ?_ | refine roundRetR ?_) | ((with_reducible refine blockPass ?_ ?_); rfl) | ((with_reducible refine awp_condT ?_ ?_); rfl) | ((with_reducible refine awp_condF ?_ ?_); rfl) | (with_reducible (refine awp_condS rfl ?_ ?_); all_goals (intro hb; have hb' := hb; (try simp only [pkC] at hb'); first | (exfalso; omega) | skip)) | ((with_reducible refine awp_reg ?_); intro K hK) | ((with_reducible refine hK _ ?_); clear hK K) | (with_reducible refine and_split ?_ ?_) | ((with_reducible refine ct_id ?_); first | (refine callThen hvn trivial ?_ ?_)) | ((with_reducible refine ctd_id ?_); first | (refine callThenD hvn trivial ?_ ?_)) | ((with_reducible refine sw_id ?_); simp (disch := first | decide | omega) only [↓pkS, pkW, pkA, undef, capsOf, ex, St.put, St.ev, kav, gdA, opI, rawI, vbin, srcOf, avsD, acsD, AV.toD, AC.toD, AV.nw, AC.nw, AC.one, Value.oneCell', fillA, D.one, D.ones, D.sz, D.szs, Nat.reduceAdd, Nat.reduceSub, Nat.reduceLeDiff, Nat.reduceEqDiff, reduceIte, pkN, li_acs, ls_acs, sl_acs, GCell.acs_eq, GCell.flat_eq, GCell.agg_eq, GCell.el, GNb.acs_eq, GNb.flat_eq, GNb.agg_eq, el_ints, el_strs, hw1, hT, hbl, hL, hmin, hq, List.drop_zero, hv, agg_flat', flats_cons', flats_nil', agg_agg']) | (first | (with_reducible rfl) | (with_reducible refine fnok_id ?_; kernel_rfl) | exact el_strs _ | exact el_ints _ | exact el_ln _ | exact el_tk _ _ | exact el_td _ _ _ | omega | (simp; done) | (simp; omega)) | ((with_reducible refine args_id ?_); simp [ArgsOk, ArgOk, argsD, argD, AC.toD, Value.oneCell', sl_flat, leaf_flat, li_flat, ls_flat, sl_agg, leaf_agg, li_agg, ls_agg, mo_t, mo_f, li_acs, ls_acs, sl_acs, GCell.acs_eq, GCell.flat_eq, GCell.agg_eq, GCell.el, GNb.acs_eq, GNb.flat_eq, GNb.agg_eq, el_ints, el_strs, hw1, hT, hbl, hL, hmin, hq, List.drop_zero, hv, agg_flat', flats_cons', flats_nil', agg_agg']; first | done | rfl))
      exact endRet ⟨⟨0, _, rfl, rfl, ⟨rfl, rfl⟩, trivial⟩, ⟨_, rfl, rfl, trivial⟩⟩
    | true =>
      rw [hv] at hvn
      have hr : parseNb s = (bd.map cellC, true) := by unfold parseNb; rw [hq, hbd, hall, hv]; rfl
      rw [hr]
      repeat' (first | (with_reducible first | refine awp_seq ?_ | refine awp_block ?_ | refine awp_skip ?_ | refine awp_exit ?_ | refine awp_ret ?_ | refine athen ?_ | refine thenExit ?_ | refine thenRet ?_ | refine blockNormal ?_ | refine blockExit ?_ | refine blockRet ?_ | refine roundExit ?_ | refine roundRet ?_ | refine roundExitR ?_ | refine roundRetR ?_) | ((with_reducible refine blockPass ?_ ?_); rfl) | ((with_reducible refine awp_condT ?_ ?_); rfl) | ((with_reducible refine awp_condF ?_ ?_); rfl) | (with_reducible (refine awp_condS rfl ?_ ?_); all_goals (intro hb; have hb' := hb; (try simp only [pkC] at hb'); first | (exfalso; omega) | skip)) | ((with_reducible refine awp_reg ?_); intro K hK) | ((with_reducible refine hK _ ?_); clear hK K) | (with_reducible refine and_split ?_ ?_) | ((with_reducible refine ct_id ?_); first | (refine callThen hvn trivial ?_ ?_)) | ((with_reducible refine ctd_id ?_); first | (refine callThenD hvn trivial ?_ ?_)) | ((with_reducible refine sw_id ?_); simp (disch := first | decide | omega) only [↓pkS, pkW, pkA, undef, capsOf, ex, St.put, St.ev, kav, gdA, opI, rawI, vbin, srcOf, avsD, acsD, AV.toD, AC.toD, AV.nw, AC.nw, AC.one, Value.oneCell', fillA, D.one, D.ones, D.sz, D.szs, Nat.reduceAdd, Nat.reduceSub, Nat.reduceLeDiff, Nat.reduceEqDiff, reduceIte, pkN, li_acs, ls_acs, sl_acs, GCell.acs_eq, GCell.flat_eq, GCell.agg_eq, GCell.el, GNb.acs_eq, GNb.flat_eq, GNb.agg_eq, el_ints, el_strs, hw1, hT, hbl, hL, hmin, hq, List.drop_zero, hv, agg_flat', flats_cons', flats_nil', agg_agg']) | (first | (with_reducible rfl) | (with_reducible refine fnok_id ?_; kernel_rfl) | exact el_strs _ | exact el_ints _ | exact el_ln _ | exact el_tk _ _ | exact el_td _ _ _ | omega | (simp; done) | (simp; omega)) | ((with_reducible refine args_id ?_); simp [ArgsOk, ArgOk, argsD, argD, AC.toD, Value.oneCell', sl_flat, leaf_flat, li_flat, ls_flat, sl_agg, leaf_agg, li_agg, ls_agg, mo_t, mo_f, li_acs, ls_acs, sl_acs, GCell.acs_eq, GCell.flat_eq, GCell.agg_eq, GCell.el, GNb.acs_eq, GNb.flat_eq, GNb.agg_eq, el_ints, el_strs, hw1, hT, hbl, hL, hmin, hq, List.drop_zero, hv, agg_flat', flats_cons', flats_nil', agg_agg']; first | done | rfl))
      exact endRet ⟨⟨0, _, rfl, rfl, ⟨_, rfl, rfl, by rw [hfin], Or.inl rfl⟩, trivial⟩, ⟨_, rfl, rfl, trivial⟩⟩
def ic_pnb_impl : IC := (.seq (.reg false [⟨(some 2), none, .alloc [(.slice none 0 0)]⟩, ⟨(some 3), none, .mov (.k (.bool false))⟩]) (.seq (.reg false [⟨(some 10), none, .mov (.t 0)⟩, ⟨(some 11), none, .call 63 [(.t 10), (.k (.int .u8 10))]⟩, ⟨(some 4), none, .mov (.t 11)⟩]) (.seq (.reg false [⟨(some 12), none, .bld [(.slice none 0 0)] []⟩, ⟨(some 5), none, .alloc [(.slice none 0 0)]⟩, ⟨none, none, .store 1 (.t 5) (.t 12)⟩]) (.seq (.seq (.reg false [⟨(some 13), none, .mov (.t 4)⟩, ⟨(some 14), none, .mov (.t 4)⟩, ⟨(some 15), none, .len false (.t 14)⟩, ⟨(some 16), none, .bin .sub (.t 15) (.k (.int .i64 1))⟩, ⟨(some 17), none, .lsl 1 (.t 13) none (some (.t 16))⟩, ⟨(some 18), none, .len false (.t 17)⟩, ⟨(some 19), none, .mov (.k (.int .i64 0))⟩]) (.block 0 (.loop (.seq (.reg false [⟨(some 20), none, .bin .lss (.t 19) (.t 18)⟩]) (.seq (.cond (.t 20) .skip (.exit 0)) (.seq (.block 1 (.seq (.reg false [⟨(some 21), none, .iad 1 (.t 17) (.t 19)⟩, ⟨(some 22), none, .load 1 false (.t 21)⟩, ⟨(some 7), none, .mov (.t 22)⟩]) (.seq (.reg false [⟨(some 24), none, .mov (.t 7)⟩, ⟨(some 25), none, .call 24 [(.t 24)]⟩, ⟨(some 23), none, .mov (.t 25)⟩, ⟨(some 26), none, .ext 0 (.t 23)⟩, ⟨(some 27), none, .ext 1 (.t 23)⟩, ⟨(some 8), none, .alloc [(.int .i64 0), (.int .i64 0), (.int .i64 0), (.string ⟨#[]⟩), (.string ⟨#[]⟩), (.int .i64 0)]⟩, ⟨none, none, .store 6 (.t 8) (.t 26)⟩, ⟨(some 9), none, .mov (.t 27)⟩]) (.seq (.seq (.reg false [⟨(some 28), none, .mov (.t 9)⟩, ⟨(some 29), none, .not (.t 28)⟩]) (.cond (.t 29) (.seq (.reg false [⟨(some 30), none, .bld [(.slice none 0 0)] []⟩, ⟨none, none, .store 1 (.t 2) (.t 30)⟩, ⟨(some 3), none, .mov (.k (.bool false))⟩]) .ret) .skip)) (.reg false [⟨(some 31), none, .fad 0 (.t 5)⟩, ⟨(some 32), none, .load 1 false (.t 31)⟩, ⟨(some 33), none, .load 6 true (.t 8)⟩, ⟨(some 34), none, .brow false 26 6 1 false [(.t 33)]⟩, ⟨(some 35), none, .app 26 6 (.t 32) (.t 34)⟩, ⟨(some 36), none, .fad 0 (.t 5)⟩, ⟨none, none, .store 1 (.t 36) (.t 35)⟩]))))) (.reg false [⟨(some 37), none, .bin .add (.t 19) (.k (.int .i64 1))⟩, ⟨(some 19), none, .mov (.t 37)⟩]))))))) (.seq (.seq (.reg false [⟨(some 38), none, .mov (.t 4)⟩, ⟨(some 39), none, .mov (.t 4)⟩, ⟨(some 40), none, .len false (.t 39)⟩, ⟨(some 41), none, .bin .sub (.t 40) (.k (.int .i64 1))⟩, ⟨(some 42), none, .iad 1 (.t 38) (.t 41)⟩, ⟨(some 43), none, .load 1 false (.t 42)⟩, ⟨(some 44), none, .bin .neq (.t 43) (.k (.string ⟨#[]⟩))⟩, ⟨(some 45), none, .mov (.t 44)⟩, ⟨(some 46), (some (45, false)), .load 1 true (.t 5)⟩, ⟨(some 47), (some (45, false)), .call 40 [(.t 46)]⟩, ⟨(some 48), (some (45, false)), .not (.t 47)⟩, ⟨(some 49), none, .pick (.t 45) (.k (.bool true)) (.t 48)⟩]) (.cond (.t 49) (.seq (.reg false [⟨(some 50), none, .bld [(.slice none 0 0)] []⟩, ⟨none, none, .store 1 (.t 2) (.t 50)⟩, ⟨(some 3), none, .mov (.k (.bool false))⟩]) .ret) .skip)) (.seq (.reg false [⟨(some 51), none, .load 1 true (.t 5)⟩, ⟨none, none, .store 1 (.t 2) (.t 51)⟩, ⟨(some 3), none, .mov (.k (.bool true))⟩]) .ret))))))
theorem ic_pnb_impl_ok : compC Tryd.prog (Tryd.f29.body.getD .skip) = some ic_pnb_impl := by kernel_rfl
set_option maxHeartbeats 16000000 in
theorem parseNb_impl_nil (s : ByteArray) (hs : s.size ≤ 1048576) (hN : (parseNb s).1 = []) : CallsTo Tryd.prog 29 [ls s] (.tup [(true, [.raw (.slice none 0 0)]), (false, [.raw (.bool (parseNb s).2)])]) := by
  refine calls_two (fn := Tryd.f29) (r := .cell 2 36) (q := .tmp 3) (by kernel_rfl) (by kernel_rfl) (by kernel_rfl) (by kernel_rfl) ic_pnb_impl_ok ?_
  unfold ic_pnb_impl
  change AWP _ _ _ (st0 52 _)
  simp only [undef, stS, st0, stN, D.av, D.avN, sl_agg, leaf_agg, li_agg, ls_agg, sl_acs, leaf_acs, li_acs, ls_acs, List.map_cons, List.map_nil, List.replicate, List.cons_append, List.nil_append, List.length_cons, List.length_nil, Nat.reduceAdd, Nat.reduceSub]
  obtain ⟨lines, hlines⟩ : ∃ l, nlL s = l := ⟨_, rfl⟩
  have hsp : CallsTo Tryd.prog 63 [ls s, .leaf (.int .u8 10)] (.c false [.sl true (lines.map ls)]) := by
    rw [← hlines]
    exact splitByte_impl_to s 10 hs
  have hne : 0 < lines.length := by rw [← hlines]; exact List.length_pos_iff.2 (cut_ne _ _)
  have hlz : lines.length ≤ 1048577 := by have := cut_le nlB s (by decide); rw [← hlines]; unfold nlL; omega
  obtain ⟨bd, hbd⟩ : ∃ b, bodyN s = b := ⟨_, rfl⟩
  have hbe : lines.take (lines.length - 1) = bd := by rw [← hbd, ← hlines]; rfl
  have hbn : bd.length = lines.length - 1 := by rw [← hbe, List.length_take]; omega
  have hbz : ∀ x ∈ bd, x.size ≤ 1048576 := fun x hx => by
    rw [← hbe] at hx
    have h1 := List.mem_of_mem_take hx
    rw [← hlines] at h1
    have := cut_piece (sep := nlB) (by decide) h1
    omega
  have hget : ∀ k (h : k < bd.length), bd[k] = lines[k]'(by omega) := fun k h => by
    have : bd[k]? = lines[k]? := by rw [← hbe, List.getElem?_take_of_lt (by omega)]
    rw [List.getElem?_eq_getElem h, List.getElem?_eq_getElem (by omega)] at this
    exact Option.some.inj this
  have hw1 : IntKind.i64.wrap ((lines.length : Int) - 1) = ((bd.length : Nat) : Int) := by rw [wrap_id (by omega) (by omega)]; omega
  have hT : (lines.map ls).take bd.length = bd.map ls := by rw [← List.map_take, hbn, hbe]
  have hbl : subB none (some ((bd.length : Nat) : Int)) lines.length = some (0, bd.length) := subB_to (by omega)
  have hmin : min bd.length lines.length = bd.length := by omega
  have hL : idx (lines.map ls) (some ((bd.length : Nat) : Int)) = some (ls (lastN s)) := by
    rw [idx_map ls lines (by omega)]
    unfold lastN
    rw [hlines, ← hbn, List.getD_eq_getElem?_getD, List.getElem?_eq_getElem (by omega)]
    rfl
  have hcw : ∀ x ∈ bd.map cellC, x.toD.wf := fun x hx => by
    obtain ⟨y, hy, rfl⟩ := List.mem_map.1 hx
    exact cellC_wf (hbz y hy)
  obtain ⟨bq, hq⟩ : ∃ b, ((lastN s).toList == (⟨#[]⟩ : ByteArray).toList) = b := ⟨_, rfl⟩
  repeat' (first | (with_reducible first | refine awp_seq ?_ | refine awp_block ?_ | refine awp_skip ?_ | refine awp_exit ?_ | refine awp_ret ?_ | refine athen ?_ | refine thenExit ?_ | refine thenRet ?_ | refine blockNormal ?_ | refine blockExit ?_ | refine blockRet ?_ | refine roundExit ?_ | refine roundRet ?_ | refine roundExitR ?_ | refine roundRetR ?_) | ((with_reducible refine blockPass ?_ ?_); rfl) | ((with_reducible refine awp_condT ?_ ?_); rfl) | ((with_reducible refine awp_condF ?_ ?_); rfl) | (with_reducible (refine awp_condS rfl ?_ ?_); all_goals (intro hb; have hb' := hb; (try simp only [pkC] at hb'); first | (exfalso; omega) | skip)) | ((with_reducible refine awp_reg ?_); intro K hK) | ((with_reducible refine sw_guardT ?_ ?_); rfl) | ((with_reducible refine sw_guardF ?_ ?_); (rfl; try simp only [St.put, undef, pkA, Nat.reduceAdd, Nat.reduceSub, Nat.reduceLeDiff, Nat.reduceEqDiff])) | (with_reducible (refine sw_guardS rfl ?_ ?_); all_goals (intro hb; have hb' := hb; (try simp only [pkC] at hb'); first | (exfalso; omega) | skip)) | ((with_reducible refine hK _ ?_); clear hK K) | (with_reducible refine and_split ?_ ?_) | ((with_reducible refine ct_id ?_); first | (refine callThen hsp trivial ?_ ?_)) | ((with_reducible refine ctd_id ?_); first | (refine callThenD hsp trivial ?_ ?_)) | ((with_reducible refine sw_id ?_); simp (disch := first | decide | omega) only [↓pkS, pkW, pkA, undef, capsOf, ex, St.put, St.ev, kav, gdA, opI, rawI, vbin, srcOf, avsD, acsD, AV.toD, AC.toD, AV.nw, AC.nw, AC.one, Value.oneCell', fillA, D.one, D.ones, D.sz, D.szs, Nat.reduceAdd, Nat.reduceSub, Nat.reduceLeDiff, Nat.reduceEqDiff, reduceIte, pkN, li_acs, ls_acs, sl_acs, GCell.acs_eq, GCell.flat_eq, GCell.agg_eq, GCell.el, GNb.acs_eq, GNb.flat_eq, GNb.agg_eq, el_ints, el_strs, hw1, hT, hbl, hL, hmin, hq, List.drop_zero]) | (first | (with_reducible rfl) | (with_reducible refine fnok_id ?_; kernel_rfl) | exact el_strs _ | exact el_ints _ | exact el_ln _ | exact el_tk _ _ | exact el_td _ _ _ | omega | (simp; done) | (simp; omega)) | ((with_reducible refine args_id ?_); simp [ArgsOk, ArgOk, argsD, argD, AC.toD, Value.oneCell', sl_flat, leaf_flat, li_flat, ls_flat, sl_agg, leaf_agg, li_agg, ls_agg, mo_t, mo_f, li_acs, ls_acs, sl_acs, GCell.acs_eq, GCell.flat_eq, GCell.agg_eq, GCell.el, GNb.acs_eq, GNb.flat_eq, GNb.agg_eq, el_ints, el_strs, hw1, hT, hbl, hL, hmin, hq, List.drop_zero]; first | done | rfl))
  refine awp_loopB (X := Nat × Option Nat) (fun q => [.d, .d, .k, .d, .k, .k, .d, .d, .d, .d, .d, .d, .d, .d, .d, .d, .d, .k, .k, .v (.c false [.raw (.int .i64 (q.1 : Nat))]), .d, .d, .d, .d, .d, .d, .d, .d, .d, .d, .d, .d, .d, .d, .d, .d, .d, .d, .d, .d, .d, .d, .d, .d, .d, .d, .d, .d, .d, .d, .d, .d]) (fun q => match q.2 with | none => [] | some w => [⟨((bd.map (GCell.toD ∘ cellC)).take q.1), 26, 6, w, true⟩]) (fun q bs => [[.raw (.slice none 0 0)], [match q.2 with | none => .raw (.slice none 0 0) | some w => .own 0 w]]) (fun q => q.1 ≤ bd.length ∧ allN (pAt okC bd) q.1 = true ∧ (match q.2 with | none => q.1 = 0 | some _ => 0 < q.1)) (fun q => bd.length - q.1) (0, none) ⟨Nat.zero_le _, rfl, rfl⟩ ?_ ?_
  · simp [StLe', FrLe, OwnLe, BoxLe, AV.fits, AC.fits, FB, mask]
  rintro ⟨k, _ | v⟩ ⟨hk, hall, hk0⟩
  · simp only at hk hall hk0
    subst hk0
    simp only [FB, mask]
    by_cases hlk : 0 < bd.length
    · have hpc := parseCell_impl_to bd[0] (hbz _ (List.getElem_mem hlk))
      have hg : idx (bd.map ls) (some ((0 : Nat) : Int)) = some (ls bd[0]) := idx_map ls bd hlk
      rw [GCell.acs_eq] at hpc
      have hcc : (parseC bd[0]).1 = cellC bd[0] := rfl
      rw [hcc] at hpc
      cases hh : okC bd[0] with
      | false =>
        have hpb : (parseC bd[0]).2 = false := hh
        rw [hpb] at hpc
        have hr : parseNb s = ([], false) := by unfold parseNb; rw [hq, hbd, allL_false hlk hh]; cases bq <;> rfl
        rw [hr]
        repeat' (first | (with_reducible first | refine awp_seq ?_ | refine awp_block ?_ | refine awp_skip ?_ | refine awp_exit ?_ | refine awp_ret ?_ | refine athen ?_ | refine thenExit ?_ | refine thenRet ?_ | refine blockNormal ?_ | refine blockExit ?_ | refine blockRet ?_ | refine roundExit ?_ | refine roundRet ?_ | refine roundExitR ?_ | refine roundRetR ?_) | ((with_reducible refine blockPass ?_ ?_); rfl) | ((with_reducible refine awp_condT ?_ ?_); rfl) | ((with_reducible refine awp_condF ?_ ?_); rfl) | (with_reducible (refine awp_condS rfl ?_ ?_); all_goals (intro hb; have hb' := hb; (try simp only [pkC] at hb'); first | (exfalso; omega) | skip)) | ((with_reducible refine awp_reg ?_); intro K hK) | ((with_reducible refine sw_guardT ?_ ?_); rfl) | ((with_reducible refine sw_guardF ?_ ?_); (rfl; try simp only [St.put, undef, pkA, Nat.reduceAdd, Nat.reduceSub, Nat.reduceLeDiff, Nat.reduceEqDiff])) | (with_reducible (refine sw_guardS rfl ?_ ?_); all_goals (intro hb; have hb' := hb; (try simp only [pkC] at hb'); first | (exfalso; omega) | skip)) | ((with_reducible refine hK _ ?_); clear hK K) | (with_reducible refine and_split ?_ ?_) | ((with_reducible refine ct_id ?_); first | (refine callThen hpc trivial ?_ ?_)) | ((with_reducible refine ctd_id ?_); first | (refine callThenD hpc trivial ?_ ?_)) | ((with_reducible refine sw_id ?_); simp (disch := first | decide | omega) only [↓pkS, pkW, pkA, undef, capsOf, ex, St.put, St.ev, kav, gdA, opI, rawI, vbin, srcOf, avsD, acsD, AV.toD, AC.toD, AV.nw, AC.nw, AC.one, Value.oneCell', fillA, D.one, D.ones, D.sz, D.szs, Nat.reduceAdd, Nat.reduceSub, Nat.reduceLeDiff, Nat.reduceEqDiff, reduceIte, pkN, li_acs, ls_acs, sl_acs, GCell.acs_eq, GCell.flat_eq, GCell.agg_eq, GCell.el, GNb.acs_eq, GNb.flat_eq, GNb.agg_eq, el_ints, el_strs, hw1, hT, hbl, hL, hmin, hq, List.drop_zero, hg]) | (first | (with_reducible rfl) | (with_reducible refine fnok_id ?_; kernel_rfl) | exact el_strs _ | exact el_ints _ | exact el_ln _ | exact el_tk _ _ | exact el_td _ _ _ | omega | (simp; done) | (simp; omega)) | ((with_reducible refine args_id ?_); simp [ArgsOk, ArgOk, argsD, argD, AC.toD, Value.oneCell', sl_flat, leaf_flat, li_flat, ls_flat, sl_agg, leaf_agg, li_agg, ls_agg, mo_t, mo_f, li_acs, ls_acs, sl_acs, GCell.acs_eq, GCell.flat_eq, GCell.agg_eq, GCell.el, GNb.acs_eq, GNb.flat_eq, GNb.agg_eq, el_ints, el_strs, hw1, hT, hbl, hL, hmin, hq, List.drop_zero, hg]; first | done | rfl))
        exact endRet ⟨⟨0, _, rfl, rfl, rfl, trivial⟩, ⟨_, rfl, rfl, trivial⟩⟩
      | true =>
        have hpb : (parseC bd[0]).2 = true := hh
        rw [hpb] at hpc
        have hs1 := allN_succ hall ((pAt_eq okC hlk).trans hh)
        have htk := take_snocF (GCell.toD ∘ cellC) bd hlk
        repeat' (first | (with_reducible first | refine awp_seq ?_ | refine awp_block ?_ | refine awp_skip ?_ | refine awp_exit ?_ | refine awp_ret ?_ | refine athen ?_ | refine thenExit ?_ | refine thenRet ?_ | refine blockNormal ?_ | refine blockExit ?_ | refine blockRet ?_ | refine roundExit ?_ | refine roundRet ?_ | refine roundExitR ?_ | refine roundRetR ?_) | ((with_reducible refine blockPass ?_ ?_); rfl) | ((with_reducible refine awp_condT ?_ ?_); rfl) | ((with_reducible refine awp_condF ?_ ?_); rfl) | (with_reducible (refine awp_condS rfl ?_ ?_); all_goals (intro hb; have hb' := hb; (try simp only [pkC] at hb'); first | (exfalso; omega) | skip)) | ((with_reducible refine awp_reg ?_); intro K hK) | ((with_reducible refine sw_guardT ?_ ?_); rfl) | ((with_reducible refine sw_guardF ?_ ?_); (rfl; try simp only [St.put, undef, pkA, Nat.reduceAdd, Nat.reduceSub, Nat.reduceLeDiff, Nat.reduceEqDiff])) | (with_reducible (refine sw_guardS rfl ?_ ?_); all_goals (intro hb; have hb' := hb; (try simp only [pkC] at hb'); first | (exfalso; omega) | skip)) | ((with_reducible refine hK _ ?_); clear hK K) | (with_reducible refine and_split ?_ ?_) | ((with_reducible refine ct_id ?_); first | (refine callThen hpc trivial ?_ ?_)) | ((with_reducible refine ctd_id ?_); first | (refine callThenD hpc trivial ?_ ?_)) | ((with_reducible refine sw_id ?_); simp (disch := first | decide | omega) only [↓pkS, pkW, pkA, undef, capsOf, ex, St.put, St.ev, kav, gdA, opI, rawI, vbin, srcOf, avsD, acsD, AV.toD, AC.toD, AV.nw, AC.nw, AC.one, Value.oneCell', fillA, D.one, D.ones, D.sz, D.szs, Nat.reduceAdd, Nat.reduceSub, Nat.reduceLeDiff, Nat.reduceEqDiff, reduceIte, pkN, li_acs, ls_acs, sl_acs, GCell.acs_eq, GCell.flat_eq, GCell.agg_eq, GCell.el, GNb.acs_eq, GNb.flat_eq, GNb.agg_eq, el_ints, el_strs, hw1, hT, hbl, hL, hmin, hq, List.drop_zero, hg]) | (first | (with_reducible rfl) | (with_reducible refine fnok_id ?_; kernel_rfl) | exact el_strs _ | exact el_ints _ | exact el_ln _ | exact el_tk _ _ | exact el_td _ _ _ | omega | (simp; done) | (simp; omega)) | ((with_reducible refine args_id ?_); simp [ArgsOk, ArgOk, argsD, argD, AC.toD, Value.oneCell', sl_flat, leaf_flat, li_flat, ls_flat, sl_agg, leaf_agg, li_agg, ls_agg, mo_t, mo_f, li_acs, ls_acs, sl_acs, GCell.acs_eq, GCell.flat_eq, GCell.agg_eq, GCell.el, GNb.acs_eq, GNb.flat_eq, GNb.agg_eq, el_ints, el_strs, hw1, hT, hbl, hL, hmin, hq, List.drop_zero, hg]; first | done | rfl))
        all_goals first
          | (simp only [List.length_map, List.length_append, List.length_cons, List.length_nil, List.length_take]; omega)
          | (refine roundB (1, some (0)) ?_ ⟨show 1 ≤ bd.length by omega, hs1, Nat.succ_pos _⟩ (show bd.length - (1) < bd.length - 0 by omega)
             simp only [List.map_map, StLe', FrLe, OwnLe, BoxLe, AV.fits, AC.fits, FB, mask]
             simp [AV.fits, AC.fits, OwnLe, htk, GCell.toD_eq, li, ls, -List.take_append_getElem])
    have hb0 : bodyN s = [] := by rw [hbd]; exact List.eq_nil_of_length_eq_zero (by omega)
    have hbl0 : bd.length = 0 := by omega
    have hv : validNb [] = true := rfl
    have hvn0 : CallsTo Tryd.prog 40 [.agg [.leaf (.slice none 0 0)]] (.c false [.raw (.bool true)]) := CallsTo.args (validNb_impl_to ⟨[]⟩ trivial) (fun w vs h => nb_nil h)
    cases bq with
    | false =>
      have hr : parseNb s = ([], false) := by unfold parseNb; rw [hq]; rfl
      rw [hr]
      repeat' (first | (with_reducible first | refine awp_seq ?_ | refine awp_block ?_ | refine awp_skip ?_ | refine awp_exit ?_ | refine awp_ret ?_ | refine athen ?_ | refine thenExit ?_ | refine thenRet ?_ | refine blockNormal ?_ | refine blockExit ?_ | refine blockRet ?_ | refine roundExit ?_ | refine roundRet ?_ | refine roundExitR ?_ | refine roundRetR ?_) | ((with_reducible refine blockPass ?_ ?_); rfl) | ((with_reducible refine awp_condT ?_ ?_); rfl) | ((with_reducible refine awp_condF ?_ ?_); rfl) | (with_reducible (refine awp_condS rfl ?_ ?_); all_goals (intro hb; have hb' := hb; (try simp only [pkC] at hb'); first | (exfalso; omega) | skip)) | ((with_reducible refine awp_reg ?_); intro K hK) | ((with_reducible refine sw_guardT ?_ ?_); rfl) | ((with_reducible refine sw_guardF ?_ ?_); (rfl; try simp only [St.put, undef, pkA, Nat.reduceAdd, Nat.reduceSub, Nat.reduceLeDiff, Nat.reduceEqDiff])) | (with_reducible (refine sw_guardS rfl ?_ ?_); all_goals (intro hb; have hb' := hb; (try simp only [pkC] at hb'); first | (exfalso; omega) | skip)) | ((with_reducible refine hK _ ?_); clear hK K) | (with_reducible refine and_split ?_ ?_) | ((with_reducible refine ct_id ?_); first | (refine callThen hvn0 trivial ?_ ?_)) | ((with_reducible refine ctd_id ?_); first | (refine callThenD hvn0 trivial ?_ ?_)) | ((with_reducible refine sw_id ?_); simp (disch := first | decide | omega) only [↓pkS, pkW, pkA, undef, capsOf, ex, St.put, St.ev, kav, gdA, opI, rawI, vbin, srcOf, avsD, acsD, AV.toD, AC.toD, AV.nw, AC.nw, AC.one, Value.oneCell', fillA, D.one, D.ones, D.sz, D.szs, Nat.reduceAdd, Nat.reduceSub, Nat.reduceLeDiff, Nat.reduceEqDiff, reduceIte, pkN, li_acs, ls_acs, sl_acs, GCell.acs_eq, GCell.flat_eq, GCell.agg_eq, GCell.el, GNb.acs_eq, GNb.flat_eq, GNb.agg_eq, el_ints, el_strs, hw1, hT, hbl, hL, hmin, hq, List.drop_zero, hv, agg_flat', flats_cons', flats_nil', agg_agg']) | (first | (with_reducible rfl) | (with_reducible refine fnok_id ?_; kernel_rfl) | exact el_strs _ | exact el_ints _ | exact el_ln _ | exact el_tk _ _ | exact el_td _ _ _ | omega | (simp; done) | (simp; omega)) | ((with_reducible refine args_id ?_); simp [ArgsOk, ArgOk, argsD, argD, AC.toD, Value.oneCell', sl_flat, leaf_flat, li_flat, ls_flat, sl_agg, leaf_agg, li_agg, ls_agg, mo_t, mo_f, li_acs, ls_acs, sl_acs, GCell.acs_eq, GCell.flat_eq, GCell.agg_eq, GCell.el, GNb.acs_eq, GNb.flat_eq, GNb.agg_eq, el_ints, el_strs, hw1, hT, hbl, hL, hmin, hq, List.drop_zero, hv, agg_flat', flats_cons', flats_nil', agg_agg']; first | done | rfl))
      exact endRet ⟨⟨0, _, rfl, rfl, rfl, trivial⟩, ⟨_, rfl, rfl, trivial⟩⟩
    | true =>
      have hr : parseNb s = ([], true) := by unfold parseNb; rw [hq, hb0]; rfl
      rw [hr]
      repeat' (first | (with_reducible first | refine awp_seq ?_ | refine awp_block ?_ | refine awp_skip ?_ | refine awp_exit ?_ | refine awp_ret ?_ | refine athen ?_ | refine thenExit ?_ | refine thenRet ?_ | refine blockNormal ?_ | refine blockExit ?_ | refine blockRet ?_ | refine roundExit ?_ | refine roundRet ?_ | refine roundExitR ?_ | refine roundRetR ?_) | ((with_reducible refine blockPass ?_ ?_); rfl) | ((with_reducible refine awp_condT ?_ ?_); rfl) | ((with_reducible refine awp_condF ?_ ?_); rfl) | (with_reducible (refine awp_condS rfl ?_ ?_); all_goals (intro hb; have hb' := hb; (try simp only [pkC] at hb'); first | (exfalso; omega) | skip)) | ((with_reducible refine awp_reg ?_); intro K hK) | ((with_reducible refine sw_guardT ?_ ?_); rfl) | ((with_reducible refine sw_guardF ?_ ?_); (rfl; try simp only [St.put, undef, pkA, Nat.reduceAdd, Nat.reduceSub, Nat.reduceLeDiff, Nat.reduceEqDiff])) | (with_reducible (refine sw_guardS rfl ?_ ?_); all_goals (intro hb; have hb' := hb; (try simp only [pkC] at hb'); first | (exfalso; omega) | skip)) | ((with_reducible refine hK _ ?_); clear hK K) | (with_reducible refine and_split ?_ ?_) | ((with_reducible refine ct_id ?_); first | (refine callThen hvn0 trivial ?_ ?_)) | ((with_reducible refine ctd_id ?_); first | (refine callThenD hvn0 trivial ?_ ?_)) | ((with_reducible refine sw_id ?_); simp (disch := first | decide | omega) only [↓pkS, pkW, pkA, undef, capsOf, ex, St.put, St.ev, kav, gdA, opI, rawI, vbin, srcOf, avsD, acsD, AV.toD, AC.toD, AV.nw, AC.nw, AC.one, Value.oneCell', fillA, D.one, D.ones, D.sz, D.szs, Nat.reduceAdd, Nat.reduceSub, Nat.reduceLeDiff, Nat.reduceEqDiff, reduceIte, pkN, li_acs, ls_acs, sl_acs, GCell.acs_eq, GCell.flat_eq, GCell.agg_eq, GCell.el, GNb.acs_eq, GNb.flat_eq, GNb.agg_eq, el_ints, el_strs, hw1, hT, hbl, hL, hmin, hq, List.drop_zero, hv, agg_flat', flats_cons', flats_nil', agg_agg']) | (first | (with_reducible rfl) | (with_reducible refine fnok_id ?_; kernel_rfl) | exact el_strs _ | exact el_ints _ | exact el_ln _ | exact el_tk _ _ | exact el_td _ _ _ | omega | (simp; done) | (simp; omega)) | ((with_reducible refine args_id ?_); simp [ArgsOk, ArgOk, argsD, argD, AC.toD, Value.oneCell', sl_flat, leaf_flat, li_flat, ls_flat, sl_agg, leaf_agg, li_agg, ls_agg, mo_t, mo_f, li_acs, ls_acs, sl_acs, GCell.acs_eq, GCell.flat_eq, GCell.agg_eq, GCell.el, GNb.acs_eq, GNb.flat_eq, GNb.agg_eq, el_ints, el_strs, hw1, hT, hbl, hL, hmin, hq, List.drop_zero, hv, agg_flat', flats_cons', flats_nil', agg_agg']; first | done | rfl))
      exact endRet ⟨⟨0, _, rfl, rfl, rfl, trivial⟩, ⟨_, rfl, rfl, trivial⟩⟩
  · simp only at hk hall hk0
    simp only [FB, mask]
    by_cases hlk : k < bd.length
    · have hpc := parseCell_impl_to bd[k] (hbz _ (List.getElem_mem hlk))
      have hg : idx (bd.map ls) (some ((k : Nat) : Int)) = some (ls bd[k]) := idx_map ls bd hlk
      rw [GCell.acs_eq] at hpc
      have hcc : (parseC bd[k]).1 = cellC bd[k] := rfl
      rw [hcc] at hpc
      cases hh : okC bd[k] with
      | false =>
        have hpb : (parseC bd[k]).2 = false := hh
        rw [hpb] at hpc
        have hr : parseNb s = ([], false) := by unfold parseNb; rw [hq, hbd, allL_false hlk hh]; cases bq <;> rfl
        rw [hr]
        repeat' (first | (with_reducible first | refine awp_seq ?_ | refine awp_block ?_ | refine awp_skip ?_ | refine awp_exit ?_ | refine awp_ret ?_ | refine athen ?_ | refine thenExit ?_ | refine thenRet ?_ | refine blockNormal ?_ | refine blockExit ?_ | refine blockRet ?_ | refine roundExit ?_ | refine roundRet ?_ | refine roundExitR ?_ | refine roundRetR ?_) | ((with_reducible refine blockPass ?_ ?_); rfl) | ((with_reducible refine awp_condT ?_ ?_); rfl) | ((with_reducible refine awp_condF ?_ ?_); rfl) | (with_reducible (refine awp_condS rfl ?_ ?_); all_goals (intro hb; have hb' := hb; (try simp only [pkC] at hb'); first | (exfalso; omega) | skip)) | ((with_reducible refine awp_reg ?_); intro K hK) | ((with_reducible refine sw_guardT ?_ ?_); rfl) | ((with_reducible refine sw_guardF ?_ ?_); (rfl; try simp only [St.put, undef, pkA, Nat.reduceAdd, Nat.reduceSub, Nat.reduceLeDiff, Nat.reduceEqDiff])) | (with_reducible (refine sw_guardS rfl ?_ ?_); all_goals (intro hb; have hb' := hb; (try simp only [pkC] at hb'); first | (exfalso; omega) | skip)) | ((with_reducible refine hK _ ?_); clear hK K) | (with_reducible refine and_split ?_ ?_) | ((with_reducible refine ct_id ?_); first | (refine callThen hpc trivial ?_ ?_)) | ((with_reducible refine ctd_id ?_); first | (refine callThenD hpc trivial ?_ ?_)) | ((with_reducible refine sw_id ?_); simp (disch := first | decide | omega) only [↓pkS, pkW, pkA, undef, capsOf, ex, St.put, St.ev, kav, gdA, opI, rawI, vbin, srcOf, avsD, acsD, AV.toD, AC.toD, AV.nw, AC.nw, AC.one, Value.oneCell', fillA, D.one, D.ones, D.sz, D.szs, Nat.reduceAdd, Nat.reduceSub, Nat.reduceLeDiff, Nat.reduceEqDiff, reduceIte, pkN, li_acs, ls_acs, sl_acs, GCell.acs_eq, GCell.flat_eq, GCell.agg_eq, GCell.el, GNb.acs_eq, GNb.flat_eq, GNb.agg_eq, el_ints, el_strs, hw1, hT, hbl, hL, hmin, hq, List.drop_zero, hg]) | (first | (with_reducible rfl) | (with_reducible refine fnok_id ?_; kernel_rfl) | exact el_strs _ | exact el_ints _ | exact el_ln _ | exact el_tk _ _ | exact el_td _ _ _ | omega | (simp; done) | (simp; omega)) | ((with_reducible refine args_id ?_); simp [ArgsOk, ArgOk, argsD, argD, AC.toD, Value.oneCell', sl_flat, leaf_flat, li_flat, ls_flat, sl_agg, leaf_agg, li_agg, ls_agg, mo_t, mo_f, li_acs, ls_acs, sl_acs, GCell.acs_eq, GCell.flat_eq, GCell.agg_eq, GCell.el, GNb.acs_eq, GNb.flat_eq, GNb.agg_eq, el_ints, el_strs, hw1, hT, hbl, hL, hmin, hq, List.drop_zero, hg]; first | done | rfl))
        exact endRet ⟨⟨0, _, rfl, rfl, rfl, trivial⟩, ⟨_, rfl, rfl, trivial⟩⟩
      | true =>
        have hpb : (parseC bd[k]).2 = true := hh
        rw [hpb] at hpc
        have hs1 := allN_succ hall ((pAt_eq okC hlk).trans hh)
        have htk := take_snocF (GCell.toD ∘ cellC) bd hlk
        repeat' (first | (with_reducible first | refine awp_seq ?_ | refine awp_block ?_ | refine awp_skip ?_ | refine awp_exit ?_ | refine awp_ret ?_ | refine athen ?_ | refine thenExit ?_ | refine thenRet ?_ | refine blockNormal ?_ | refine blockExit ?_ | refine blockRet ?_ | refine roundExit ?_ | refine roundRet ?_ | refine roundExitR ?_ | refine roundRetR ?_) | ((with_reducible refine blockPass ?_ ?_); rfl) | ((with_reducible refine awp_condT ?_ ?_); rfl) | ((with_reducible refine awp_condF ?_ ?_); rfl) | (with_reducible (refine awp_condS rfl ?_ ?_); all_goals (intro hb; have hb' := hb; (try simp only [pkC] at hb'); first | (exfalso; omega) | skip)) | ((with_reducible refine awp_reg ?_); intro K hK) | ((with_reducible refine sw_guardT ?_ ?_); rfl) | ((with_reducible refine sw_guardF ?_ ?_); (rfl; try simp only [St.put, undef, pkA, Nat.reduceAdd, Nat.reduceSub, Nat.reduceLeDiff, Nat.reduceEqDiff])) | (with_reducible (refine sw_guardS rfl ?_ ?_); all_goals (intro hb; have hb' := hb; (try simp only [pkC] at hb'); first | (exfalso; omega) | skip)) | ((with_reducible refine hK _ ?_); clear hK K) | (with_reducible refine and_split ?_ ?_) | ((with_reducible refine ct_id ?_); first | (refine callThen hpc trivial ?_ ?_)) | ((with_reducible refine ctd_id ?_); first | (refine callThenD hpc trivial ?_ ?_)) | ((with_reducible refine sw_id ?_); simp (disch := first | decide | omega) only [↓pkS, pkW, pkA, undef, capsOf, ex, St.put, St.ev, kav, gdA, opI, rawI, vbin, srcOf, avsD, acsD, AV.toD, AC.toD, AV.nw, AC.nw, AC.one, Value.oneCell', fillA, D.one, D.ones, D.sz, D.szs, Nat.reduceAdd, Nat.reduceSub, Nat.reduceLeDiff, Nat.reduceEqDiff, reduceIte, pkN, li_acs, ls_acs, sl_acs, GCell.acs_eq, GCell.flat_eq, GCell.agg_eq, GCell.el, GNb.acs_eq, GNb.flat_eq, GNb.agg_eq, el_ints, el_strs, hw1, hT, hbl, hL, hmin, hq, List.drop_zero, hg]) | (first | (with_reducible rfl) | (with_reducible refine fnok_id ?_; kernel_rfl) | exact el_strs _ | exact el_ints _ | exact el_ln _ | exact el_tk _ _ | exact el_td _ _ _ | omega | (simp; done) | (simp; omega)) | ((with_reducible refine args_id ?_); simp [ArgsOk, ArgOk, argsD, argD, AC.toD, Value.oneCell', sl_flat, leaf_flat, li_flat, ls_flat, sl_agg, leaf_agg, li_agg, ls_agg, mo_t, mo_f, li_acs, ls_acs, sl_acs, GCell.acs_eq, GCell.flat_eq, GCell.agg_eq, GCell.el, GNb.acs_eq, GNb.flat_eq, GNb.agg_eq, el_ints, el_strs, hw1, hT, hbl, hL, hmin, hq, List.drop_zero, hg]; first | done | rfl))
        all_goals first
          | (simp only [List.length_map, List.length_append, List.length_cons, List.length_nil, List.length_take]; omega)
          | (refine roundB (k + 1, some (v + 1)) ?_ ⟨show k + 1 ≤ bd.length by omega, hs1, Nat.succ_pos _⟩ (show bd.length - (k + 1) < bd.length - k by omega)
             simp only [List.map_map, StLe', FrLe, OwnLe, BoxLe, AV.fits, AC.fits, FB, mask]
             simp [AV.fits, AC.fits, OwnLe, htk, GCell.toD_eq, li, ls, -List.take_append_getElem])
    obtain rfl : k = bd.length := by omega
    have hfin : (bd.map (GCell.toD ∘ cellC)).take bd.length = (bd.map cellC).map GCell.toD := by rw [List.take_of_length_le (by rw [List.length_map]; exact Nat.le_refl _), List.map_map]
    have hall : allL okC bd = true := hall
    have hvn := validNb_impl_to ⟨bd.map cellC⟩ (wfs_of fun d hd => by obtain ⟨x, hx, rfl⟩ := List.mem_map.1 hd; exact hcw x hx)
    simp only at hvn
    rw [GNb.toD_eq, ← hfin] at hvn
    cases bq with
    | false =>
      have hr : parseNb s = ([], false) := by unfold parseNb; rw [hq]; rfl
      rw [hr]
      repeat' (first | (with_reducible first | refine awp_seq ?_ | refine awp_block ?_ | refine awp_skip ?_ | refine awp_exit ?_ | refine awp_ret ?_ | refine athen ?_ | refine thenExit ?_ | refine thenRet ?_ | refine blockNormal ?_ | refine blockExit ?_ | refine blockRet ?_ | refine roundExit ?_ | refine roundRet ?_ | refine roundExitR ?_ | refine roundRetR ?_) | ((with_reducible refine blockPass ?_ ?_); rfl) | ((with_reducible refine awp_condT ?_ ?_); rfl) | ((with_reducible refine awp_condF ?_ ?_); rfl) | (with_reducible (refine awp_condS rfl ?_ ?_); all_goals (intro hb; have hb' := hb; (try simp only [pkC] at hb'); first | (exfalso; omega) | skip)) | ((with_reducible refine awp_reg ?_); intro K hK) | ((with_reducible refine sw_guardT ?_ ?_); rfl) | ((with_reducible refine sw_guardF ?_ ?_); (rfl; try simp only [St.put, undef, pkA, Nat.reduceAdd, Nat.reduceSub, Nat.reduceLeDiff, Nat.reduceEqDiff])) | (with_reducible (refine sw_guardS rfl ?_ ?_); all_goals (intro hb; have hb' := hb; (try simp only [pkC] at hb'); first | (exfalso; omega) | skip)) | ((with_reducible refine hK _ ?_); clear hK K) | (with_reducible refine and_split ?_ ?_) | ((with_reducible refine ct_id ?_); first | (refine callThen hvn trivial ?_ ?_)) | ((with_reducible refine ctd_id ?_); first | (refine callThenD hvn trivial ?_ ?_)) | ((with_reducible refine sw_id ?_); simp (disch := first | decide | omega) only [↓pkS, pkW, pkA, undef, capsOf, ex, St.put, St.ev, kav, gdA, opI, rawI, vbin, srcOf, avsD, acsD, AV.toD, AC.toD, AV.nw, AC.nw, AC.one, Value.oneCell', fillA, D.one, D.ones, D.sz, D.szs, Nat.reduceAdd, Nat.reduceSub, Nat.reduceLeDiff, Nat.reduceEqDiff, reduceIte, pkN, li_acs, ls_acs, sl_acs, GCell.acs_eq, GCell.flat_eq, GCell.agg_eq, GCell.el, GNb.acs_eq, GNb.flat_eq, GNb.agg_eq, el_ints, el_strs, hw1, hT, hbl, hL, hmin, hq, List.drop_zero, agg_flat', flats_cons', flats_nil', agg_agg']) | (first | (with_reducible rfl) | (with_reducible refine fnok_id ?_; kernel_rfl) | exact el_strs _ | exact el_ints _ | exact el_ln _ | exact el_tk _ _ | exact el_td _ _ _ | omega | (simp; done) | (simp; omega)) | ((with_reducible refine args_id ?_); simp [ArgsOk, ArgOk, argsD, argD, AC.toD, Value.oneCell', sl_flat, leaf_flat, li_flat, ls_flat, sl_agg, leaf_agg, li_agg, ls_agg, mo_t, mo_f, li_acs, ls_acs, sl_acs, GCell.acs_eq, GCell.flat_eq, GCell.agg_eq, GCell.el, GNb.acs_eq, GNb.flat_eq, GNb.agg_eq, el_ints, el_strs, hw1, hT, hbl, hL, hmin, hq, List.drop_zero, agg_flat', flats_cons', flats_nil', agg_agg']; first | done | rfl))
      all_goals exact endRet ⟨⟨0, _, rfl, rfl, rfl, trivial⟩, ⟨_, rfl, rfl, trivial⟩⟩
    | true =>
    cases hv : validNb (bd.map cellC) with
    | false =>
      rw [hv] at hvn
      have hr : parseNb s = ([], false) := by unfold parseNb; rw [hq, hbd, hall, hv]; rfl
      rw [hr]
      repeat' (first | (with_reducible first | refine awp_seq ?_ | refine awp_block ?_ | refine awp_skip ?_ | refine awp_exit ?_ | refine awp_ret ?_ | refine athen ?_ | refine thenExit ?_ | refine thenRet ?_ | refine blockNormal ?_ | refine blockExit ?_ | refine blockRet ?_ | refine roundExit ?_ | refine roundRet ?_ | refine roundExitR ?_ | refine roundRetR ?_) | ((with_reducible refine blockPass ?_ ?_); rfl) | ((with_reducible refine awp_condT ?_ ?_); rfl) | ((with_reducible refine awp_condF ?_ ?_); rfl) | (with_reducible (refine awp_condS rfl ?_ ?_); all_goals (intro hb; have hb' := hb; (try simp only [pkC] at hb'); first | (exfalso; omega) | skip)) | ((with_reducible refine awp_reg ?_); intro K hK) | ((with_reducible refine sw_guardT ?_ ?_); rfl) | ((with_reducible refine sw_guardF ?_ ?_); (rfl; try simp only [St.put, undef, pkA, Nat.reduceAdd, Nat.reduceSub, Nat.reduceLeDiff, Nat.reduceEqDiff])) | (with_reducible (refine sw_guardS rfl ?_ ?_); all_goals (intro hb; have hb' := hb; (try simp only [pkC] at hb'); first | (exfalso; omega) | skip)) | ((with_reducible refine hK _ ?_); clear hK K) | (with_reducible refine and_split ?_ ?_) | ((with_reducible refine ct_id ?_); first | (refine callThen hvn trivial ?_ ?_)) | ((with_reducible refine ctd_id ?_); first | (refine callThenD hvn trivial ?_ ?_)) | ((with_reducible refine sw_id ?_); simp (disch := first | decide | omega) only [↓pkS, pkW, pkA, undef, capsOf, ex, St.put, St.ev, kav, gdA, opI, rawI, vbin, srcOf, avsD, acsD, AV.toD, AC.toD, AV.nw, AC.nw, AC.one, Value.oneCell', fillA, D.one, D.ones, D.sz, D.szs, Nat.reduceAdd, Nat.reduceSub, Nat.reduceLeDiff, Nat.reduceEqDiff, reduceIte, pkN, li_acs, ls_acs, sl_acs, GCell.acs_eq, GCell.flat_eq, GCell.agg_eq, GCell.el, GNb.acs_eq, GNb.flat_eq, GNb.agg_eq, el_ints, el_strs, hw1, hT, hbl, hL, hmin, hq, List.drop_zero, hv, agg_flat', flats_cons', flats_nil', agg_agg']) | (first | (with_reducible rfl) | (with_reducible refine fnok_id ?_; kernel_rfl) | exact el_strs _ | exact el_ints _ | exact el_ln _ | exact el_tk _ _ | exact el_td _ _ _ | omega | (simp; done) | (simp; omega)) | ((with_reducible refine args_id ?_); simp [ArgsOk, ArgOk, argsD, argD, AC.toD, Value.oneCell', sl_flat, leaf_flat, li_flat, ls_flat, sl_agg, leaf_agg, li_agg, ls_agg, mo_t, mo_f, li_acs, ls_acs, sl_acs, GCell.acs_eq, GCell.flat_eq, GCell.agg_eq, GCell.el, GNb.acs_eq, GNb.flat_eq, GNb.agg_eq, el_ints, el_strs, hw1, hT, hbl, hL, hmin, hq, List.drop_zero, hv, agg_flat', flats_cons', flats_nil', agg_agg']; first | done | rfl))
      exact endRet ⟨⟨0, _, rfl, rfl, rfl, trivial⟩, ⟨_, rfl, rfl, trivial⟩⟩
    | true =>
      rw [hv] at hvn
      have hr : parseNb s = (bd.map cellC, true) := by unfold parseNb; rw [hq, hbd, hall, hv]; rfl
      rw [hr] at hN
      have hN2 := congrArg List.length hN
      simp at hN2
      exact absurd hN2 (by intro e; rw [e] at hk0; simp at hk0)
set_option maxHeartbeats 16000000 in
theorem parseNb_impl_own (s : ByteArray) (hs : s.size ≤ 1048576) (hO : (parseNb s).1 ≠ []) : CallsX Tryd.prog 29 [ls s] (.tup [(true, [.own 0 0]), (false, [.raw (.bool true)])]) [⟨(parseNb s).1.map GCell.toD, 26, 6, 0, true⟩] := by
  refine calls_outs2 (fn := Tryd.f29) (r := .cell 2 36) (q := .tmp 3) (by kernel_rfl) (by kernel_rfl) (by kernel_rfl) (by kernel_rfl) ic_pnb_impl_ok ?_
  unfold ic_pnb_impl
  change AWP _ _ _ (st0 52 _)
  simp only [undef, stS, st0, stN, D.av, D.avN, sl_agg, leaf_agg, li_agg, ls_agg, sl_acs, leaf_acs, li_acs, ls_acs, List.map_cons, List.map_nil, List.replicate, List.cons_append, List.nil_append, List.length_cons, List.length_nil, Nat.reduceAdd, Nat.reduceSub]
  obtain ⟨lines, hlines⟩ : ∃ l, nlL s = l := ⟨_, rfl⟩
  have hsp : CallsTo Tryd.prog 63 [ls s, .leaf (.int .u8 10)] (.c false [.sl true (lines.map ls)]) := by
    rw [← hlines]
    exact splitByte_impl_to s 10 hs
  have hne : 0 < lines.length := by rw [← hlines]; exact List.length_pos_iff.2 (cut_ne _ _)
  have hlz : lines.length ≤ 1048577 := by have := cut_le nlB s (by decide); rw [← hlines]; unfold nlL; omega
  obtain ⟨bd, hbd⟩ : ∃ b, bodyN s = b := ⟨_, rfl⟩
  have hbe : lines.take (lines.length - 1) = bd := by rw [← hbd, ← hlines]; rfl
  have hbn : bd.length = lines.length - 1 := by rw [← hbe, List.length_take]; omega
  have hbz : ∀ x ∈ bd, x.size ≤ 1048576 := fun x hx => by
    rw [← hbe] at hx
    have h1 := List.mem_of_mem_take hx
    rw [← hlines] at h1
    have := cut_piece (sep := nlB) (by decide) h1
    omega
  have hget : ∀ k (h : k < bd.length), bd[k] = lines[k]'(by omega) := fun k h => by
    have : bd[k]? = lines[k]? := by rw [← hbe, List.getElem?_take_of_lt (by omega)]
    rw [List.getElem?_eq_getElem h, List.getElem?_eq_getElem (by omega)] at this
    exact Option.some.inj this
  have hw1 : IntKind.i64.wrap ((lines.length : Int) - 1) = ((bd.length : Nat) : Int) := by rw [wrap_id (by omega) (by omega)]; omega
  have hT : (lines.map ls).take bd.length = bd.map ls := by rw [← List.map_take, hbn, hbe]
  have hbl : subB none (some ((bd.length : Nat) : Int)) lines.length = some (0, bd.length) := subB_to (by omega)
  have hmin : min bd.length lines.length = bd.length := by omega
  have hL : idx (lines.map ls) (some ((bd.length : Nat) : Int)) = some (ls (lastN s)) := by
    rw [idx_map ls lines (by omega)]
    unfold lastN
    rw [hlines, ← hbn, List.getD_eq_getElem?_getD, List.getElem?_eq_getElem (by omega)]
    rfl
  have hcw : ∀ x ∈ bd.map cellC, x.toD.wf := fun x hx => by
    obtain ⟨y, hy, rfl⟩ := List.mem_map.1 hx
    exact cellC_wf (hbz y hy)
  obtain ⟨bq, hq⟩ : ∃ b, ((lastN s).toList == (⟨#[]⟩ : ByteArray).toList) = b := ⟨_, rfl⟩
  repeat' (first | (with_reducible first | refine awp_seq ?_ | refine awp_block ?_ | refine awp_skip ?_ | refine awp_exit ?_ | refine awp_ret ?_ | refine athen ?_ | refine thenExit ?_ | refine thenRet ?_ | refine blockNormal ?_ | refine blockExit ?_ | refine blockRet ?_ | refine roundExit ?_ | refine roundRet ?_ | refine roundExitR ?_ | refine roundRetR ?_) | ((with_reducible refine blockPass ?_ ?_); rfl) | ((with_reducible refine awp_condT ?_ ?_); rfl) | ((with_reducible refine awp_condF ?_ ?_); rfl) | (with_reducible (refine awp_condS rfl ?_ ?_); all_goals (intro hb; have hb' := hb; (try simp only [pkC] at hb'); first | (exfalso; omega) | skip)) | ((with_reducible refine awp_reg ?_); intro K hK) | ((with_reducible refine sw_guardT ?_ ?_); rfl) | ((with_reducible refine sw_guardF ?_ ?_); (rfl; try simp only [St.put, undef, pkA, Nat.reduceAdd, Nat.reduceSub, Nat.reduceLeDiff, Nat.reduceEqDiff])) | (with_reducible (refine sw_guardS rfl ?_ ?_); all_goals (intro hb; have hb' := hb; (try simp only [pkC] at hb'); first | (exfalso; omega) | skip)) | ((with_reducible refine hK _ ?_); clear hK K) | (with_reducible refine and_split ?_ ?_) | ((with_reducible refine ct_id ?_); first | (refine callThen hsp trivial ?_ ?_)) | ((with_reducible refine ctd_id ?_); first | (refine callThenD hsp trivial ?_ ?_)) | ((with_reducible refine sw_id ?_); simp (disch := first | decide | omega) only [↓pkS, pkW, pkA, undef, capsOf, ex, St.put, St.ev, kav, gdA, opI, rawI, vbin, srcOf, avsD, acsD, AV.toD, AC.toD, AV.nw, AC.nw, AC.one, Value.oneCell', fillA, D.one, D.ones, D.sz, D.szs, Nat.reduceAdd, Nat.reduceSub, Nat.reduceLeDiff, Nat.reduceEqDiff, reduceIte, pkN, li_acs, ls_acs, sl_acs, GCell.acs_eq, GCell.flat_eq, GCell.agg_eq, GCell.el, GNb.acs_eq, GNb.flat_eq, GNb.agg_eq, el_ints, el_strs, hw1, hT, hbl, hL, hmin, hq, List.drop_zero]) | (first | (with_reducible rfl) | (with_reducible refine fnok_id ?_; kernel_rfl) | exact el_strs _ | exact el_ints _ | exact el_ln _ | exact el_tk _ _ | exact el_td _ _ _ | omega | (simp; done) | (simp; omega)) | ((with_reducible refine args_id ?_); simp [ArgsOk, ArgOk, argsD, argD, AC.toD, Value.oneCell', sl_flat, leaf_flat, li_flat, ls_flat, sl_agg, leaf_agg, li_agg, ls_agg, mo_t, mo_f, li_acs, ls_acs, sl_acs, GCell.acs_eq, GCell.flat_eq, GCell.agg_eq, GCell.el, GNb.acs_eq, GNb.flat_eq, GNb.agg_eq, el_ints, el_strs, hw1, hT, hbl, hL, hmin, hq, List.drop_zero]; first | done | rfl))
  refine awp_loopB (X := Nat × Option Nat) (fun q => [.d, .d, .k, .d, .k, .k, .d, .d, .d, .d, .d, .d, .d, .d, .d, .d, .d, .k, .k, .v (.c false [.raw (.int .i64 (q.1 : Nat))]), .d, .d, .d, .d, .d, .d, .d, .d, .d, .d, .d, .d, .d, .d, .d, .d, .d, .d, .d, .d, .d, .d, .d, .d, .d, .d, .d, .d, .d, .d, .d, .d]) (fun q => match q.2 with | none => [] | some w => [⟨((bd.map (GCell.toD ∘ cellC)).take q.1), 26, 6, w, true⟩]) (fun q bs => [[.raw (.slice none 0 0)], [match q.2 with | none => .raw (.slice none 0 0) | some w => .own 0 w]]) (fun q => q.1 ≤ bd.length ∧ allN (pAt okC bd) q.1 = true ∧ (match q.2 with | none => q.1 = 0 | some _ => 0 < q.1)) (fun q => bd.length - q.1) (0, none) ⟨Nat.zero_le _, rfl, rfl⟩ ?_ ?_
  · simp [StLe', FrLe, OwnLe, BoxLe, AV.fits, AC.fits, FB, mask]
  rintro ⟨k, _ | v⟩ ⟨hk, hall, hk0⟩
  · simp only at hk hall hk0
    subst hk0
    simp only [FB, mask]
    by_cases hlk : 0 < bd.length
    · have hpc := parseCell_impl_to bd[0] (hbz _ (List.getElem_mem hlk))
      have hg : idx (bd.map ls) (some ((0 : Nat) : Int)) = some (ls bd[0]) := idx_map ls bd hlk
      rw [GCell.acs_eq] at hpc
      have hcc : (parseC bd[0]).1 = cellC bd[0] := rfl
      rw [hcc] at hpc
      cases hh : okC bd[0] with
      | false =>
        have hpb : (parseC bd[0]).2 = false := hh
        rw [hpb] at hpc
        have hr : parseNb s = ([], false) := by unfold parseNb; rw [hq, hbd, allL_false hlk hh]; cases bq <;> rfl
        exact absurd (by rw [hr]) hO
      | true =>
        have hpb : (parseC bd[0]).2 = true := hh
        rw [hpb] at hpc
        have hs1 := allN_succ hall ((pAt_eq okC hlk).trans hh)
        have htk := take_snocF (GCell.toD ∘ cellC) bd hlk
        repeat' (first | (with_reducible first | refine awp_seq ?_ | refine awp_block ?_ | refine awp_skip ?_ | refine awp_exit ?_ | refine awp_ret ?_ | refine athen ?_ | refine thenExit ?_ | refine thenRet ?_ | refine blockNormal ?_ | refine blockExit ?_ | refine blockRet ?_ | refine roundExit ?_ | refine roundRet ?_ | refine roundExitR ?_ | refine roundRetR ?_) | ((with_reducible refine blockPass ?_ ?_); rfl) | ((with_reducible refine awp_condT ?_ ?_); rfl) | ((with_reducible refine awp_condF ?_ ?_); rfl) | (with_reducible (refine awp_condS rfl ?_ ?_); all_goals (intro hb; have hb' := hb; (try simp only [pkC] at hb'); first | (exfalso; omega) | skip)) | ((with_reducible refine awp_reg ?_); intro K hK) | ((with_reducible refine sw_guardT ?_ ?_); rfl) | ((with_reducible refine sw_guardF ?_ ?_); (rfl; try simp only [St.put, undef, pkA, Nat.reduceAdd, Nat.reduceSub, Nat.reduceLeDiff, Nat.reduceEqDiff])) | (with_reducible (refine sw_guardS rfl ?_ ?_); all_goals (intro hb; have hb' := hb; (try simp only [pkC] at hb'); first | (exfalso; omega) | skip)) | ((with_reducible refine hK _ ?_); clear hK K) | (with_reducible refine and_split ?_ ?_) | ((with_reducible refine ct_id ?_); first | (refine callThen hpc trivial ?_ ?_)) | ((with_reducible refine ctd_id ?_); first | (refine callThenD hpc trivial ?_ ?_)) | ((with_reducible refine sw_id ?_); simp (disch := first | decide | omega) only [↓pkS, pkW, pkA, undef, capsOf, ex, St.put, St.ev, kav, gdA, opI, rawI, vbin, srcOf, avsD, acsD, AV.toD, AC.toD, AV.nw, AC.nw, AC.one, Value.oneCell', fillA, D.one, D.ones, D.sz, D.szs, Nat.reduceAdd, Nat.reduceSub, Nat.reduceLeDiff, Nat.reduceEqDiff, reduceIte, pkN, li_acs, ls_acs, sl_acs, GCell.acs_eq, GCell.flat_eq, GCell.agg_eq, GCell.el, GNb.acs_eq, GNb.flat_eq, GNb.agg_eq, el_ints, el_strs, hw1, hT, hbl, hL, hmin, hq, List.drop_zero, hg]) | (first | (with_reducible rfl) | (with_reducible refine fnok_id ?_; kernel_rfl) | exact el_strs _ | exact el_ints _ | exact el_ln _ | exact el_tk _ _ | exact el_td _ _ _ | omega | (simp; done) | (simp; omega)) | ((with_reducible refine args_id ?_); simp [ArgsOk, ArgOk, argsD, argD, AC.toD, Value.oneCell', sl_flat, leaf_flat, li_flat, ls_flat, sl_agg, leaf_agg, li_agg, ls_agg, mo_t, mo_f, li_acs, ls_acs, sl_acs, GCell.acs_eq, GCell.flat_eq, GCell.agg_eq, GCell.el, GNb.acs_eq, GNb.flat_eq, GNb.agg_eq, el_ints, el_strs, hw1, hT, hbl, hL, hmin, hq, List.drop_zero, hg]; first | done | rfl))
        all_goals first
          | (simp only [List.length_map, List.length_append, List.length_cons, List.length_nil, List.length_take]; omega)
          | (refine roundB (1, some (0)) ?_ ⟨show 1 ≤ bd.length by omega, hs1, Nat.succ_pos _⟩ (show bd.length - (1) < bd.length - 0 by omega)
             simp only [List.map_map, StLe', FrLe, OwnLe, BoxLe, AV.fits, AC.fits, FB, mask]
             simp [AV.fits, AC.fits, OwnLe, htk, GCell.toD_eq, li, ls, -List.take_append_getElem])
    have hb0 : bodyN s = [] := by rw [hbd]; exact List.eq_nil_of_length_eq_zero (by omega)
    have hbl0 : bd.length = 0 := by omega
    have hv : validNb [] = true := rfl
    have hvn0 : CallsTo Tryd.prog 40 [.agg [.leaf (.slice none 0 0)]] (.c false [.raw (.bool true)]) := CallsTo.args (validNb_impl_to ⟨[]⟩ trivial) (fun w vs h => nb_nil h)
    cases bq with
    | false =>
      have hr : parseNb s = ([], false) := by unfold parseNb; rw [hq]; rfl
      exact absurd (by rw [hr]) hO
    | true =>
      have hr : parseNb s = ([], true) := by unfold parseNb; rw [hq, hb0]; rfl
      exact absurd (by rw [hr]) hO
  · simp only at hk hall hk0
    simp only [FB, mask]
    by_cases hlk : k < bd.length
    · have hpc := parseCell_impl_to bd[k] (hbz _ (List.getElem_mem hlk))
      have hg : idx (bd.map ls) (some ((k : Nat) : Int)) = some (ls bd[k]) := idx_map ls bd hlk
      rw [GCell.acs_eq] at hpc
      have hcc : (parseC bd[k]).1 = cellC bd[k] := rfl
      rw [hcc] at hpc
      cases hh : okC bd[k] with
      | false =>
        have hpb : (parseC bd[k]).2 = false := hh
        rw [hpb] at hpc
        have hr : parseNb s = ([], false) := by unfold parseNb; rw [hq, hbd, allL_false hlk hh]; cases bq <;> rfl
        exact absurd (by rw [hr]) hO
      | true =>
        have hpb : (parseC bd[k]).2 = true := hh
        rw [hpb] at hpc
        have hs1 := allN_succ hall ((pAt_eq okC hlk).trans hh)
        have htk := take_snocF (GCell.toD ∘ cellC) bd hlk
        repeat' (first | (with_reducible first | refine awp_seq ?_ | refine awp_block ?_ | refine awp_skip ?_ | refine awp_exit ?_ | refine awp_ret ?_ | refine athen ?_ | refine thenExit ?_ | refine thenRet ?_ | refine blockNormal ?_ | refine blockExit ?_ | refine blockRet ?_ | refine roundExit ?_ | refine roundRet ?_ | refine roundExitR ?_ | refine roundRetR ?_) | ((with_reducible refine blockPass ?_ ?_); rfl) | ((with_reducible refine awp_condT ?_ ?_); rfl) | ((with_reducible refine awp_condF ?_ ?_); rfl) | (with_reducible (refine awp_condS rfl ?_ ?_); all_goals (intro hb; have hb' := hb; (try simp only [pkC] at hb'); first | (exfalso; omega) | skip)) | ((with_reducible refine awp_reg ?_); intro K hK) | ((with_reducible refine sw_guardT ?_ ?_); rfl) | ((with_reducible refine sw_guardF ?_ ?_); (rfl; try simp only [St.put, undef, pkA, Nat.reduceAdd, Nat.reduceSub, Nat.reduceLeDiff, Nat.reduceEqDiff])) | (with_reducible (refine sw_guardS rfl ?_ ?_); all_goals (intro hb; have hb' := hb; (try simp only [pkC] at hb'); first | (exfalso; omega) | skip)) | ((with_reducible refine hK _ ?_); clear hK K) | (with_reducible refine and_split ?_ ?_) | ((with_reducible refine ct_id ?_); first | (refine callThen hpc trivial ?_ ?_)) | ((with_reducible refine ctd_id ?_); first | (refine callThenD hpc trivial ?_ ?_)) | ((with_reducible refine sw_id ?_); simp (disch := first | decide | omega) only [↓pkS, pkW, pkA, undef, capsOf, ex, St.put, St.ev, kav, gdA, opI, rawI, vbin, srcOf, avsD, acsD, AV.toD, AC.toD, AV.nw, AC.nw, AC.one, Value.oneCell', fillA, D.one, D.ones, D.sz, D.szs, Nat.reduceAdd, Nat.reduceSub, Nat.reduceLeDiff, Nat.reduceEqDiff, reduceIte, pkN, li_acs, ls_acs, sl_acs, GCell.acs_eq, GCell.flat_eq, GCell.agg_eq, GCell.el, GNb.acs_eq, GNb.flat_eq, GNb.agg_eq, el_ints, el_strs, hw1, hT, hbl, hL, hmin, hq, List.drop_zero, hg]) | (first | (with_reducible rfl) | (with_reducible refine fnok_id ?_; kernel_rfl) | exact el_strs _ | exact el_ints _ | exact el_ln _ | exact el_tk _ _ | exact el_td _ _ _ | omega | (simp; done) | (simp; omega)) | ((with_reducible refine args_id ?_); simp [ArgsOk, ArgOk, argsD, argD, AC.toD, Value.oneCell', sl_flat, leaf_flat, li_flat, ls_flat, sl_agg, leaf_agg, li_agg, ls_agg, mo_t, mo_f, li_acs, ls_acs, sl_acs, GCell.acs_eq, GCell.flat_eq, GCell.agg_eq, GCell.el, GNb.acs_eq, GNb.flat_eq, GNb.agg_eq, el_ints, el_strs, hw1, hT, hbl, hL, hmin, hq, List.drop_zero, hg]; first | done | rfl))
        all_goals first
          | (simp only [List.length_map, List.length_append, List.length_cons, List.length_nil, List.length_take]; omega)
          | (refine roundB (k + 1, some (v + 1)) ?_ ⟨show k + 1 ≤ bd.length by omega, hs1, Nat.succ_pos _⟩ (show bd.length - (k + 1) < bd.length - k by omega)
             simp only [List.map_map, StLe', FrLe, OwnLe, BoxLe, AV.fits, AC.fits, FB, mask]
             simp [AV.fits, AC.fits, OwnLe, htk, GCell.toD_eq, li, ls, -List.take_append_getElem])
    obtain rfl : k = bd.length := by omega
    have hfin : (bd.map (GCell.toD ∘ cellC)).take bd.length = (bd.map cellC).map GCell.toD := by rw [List.take_of_length_le (by rw [List.length_map]; exact Nat.le_refl _), List.map_map]
    have hall : allL okC bd = true := hall
    have hvn := validNb_impl_to ⟨bd.map cellC⟩ (wfs_of fun d hd => by obtain ⟨x, hx, rfl⟩ := List.mem_map.1 hd; exact hcw x hx)
    simp only at hvn
    rw [GNb.toD_eq, ← hfin] at hvn
    cases bq with
    | false =>
      have hr : parseNb s = ([], false) := by unfold parseNb; rw [hq]; rfl
      exact absurd (by rw [hr]) hO
    | true =>
    cases hv : validNb (bd.map cellC) with
    | false =>
      rw [hv] at hvn
      have hr : parseNb s = ([], false) := by unfold parseNb; rw [hq, hbd, hall, hv]; rfl
      exact absurd (by rw [hr]) hO
    | true =>
      rw [hv] at hvn
      have hr : parseNb s = (bd.map cellC, true) := by unfold parseNb; rw [hq, hbd, hall, hv]; rfl
      rw [hr]
      repeat' (first | (with_reducible first | refine awp_seq ?_ | refine awp_block ?_ | refine awp_skip ?_ | refine awp_exit ?_ | refine awp_ret ?_ | refine athen ?_ | refine thenExit ?_ | refine thenRet ?_ | refine blockNormal ?_ | refine blockExit ?_ | refine blockRet ?_ | refine roundExit ?_ | refine roundRet ?_ | refine roundExitR ?_ | refine roundRetR ?_) | ((with_reducible refine blockPass ?_ ?_); rfl) | ((with_reducible refine awp_condT ?_ ?_); rfl) | ((with_reducible refine awp_condF ?_ ?_); rfl) | (with_reducible (refine awp_condS rfl ?_ ?_); all_goals (intro hb; have hb' := hb; (try simp only [pkC] at hb'); first | (exfalso; omega) | skip)) | ((with_reducible refine awp_reg ?_); intro K hK) | ((with_reducible refine sw_guardT ?_ ?_); rfl) | ((with_reducible refine sw_guardF ?_ ?_); (rfl; try simp only [St.put, undef, pkA, Nat.reduceAdd, Nat.reduceSub, Nat.reduceLeDiff, Nat.reduceEqDiff])) | (with_reducible (refine sw_guardS rfl ?_ ?_); all_goals (intro hb; have hb' := hb; (try simp only [pkC] at hb'); first | (exfalso; omega) | skip)) | ((with_reducible refine hK _ ?_); clear hK K) | (with_reducible refine and_split ?_ ?_) | ((with_reducible refine ct_id ?_); first | (refine callThen hvn trivial ?_ ?_)) | ((with_reducible refine ctd_id ?_); first | (refine callThenD hvn trivial ?_ ?_)) | ((with_reducible refine sw_id ?_); simp (disch := first | decide | omega) only [↓pkS, pkW, pkA, undef, capsOf, ex, St.put, St.ev, kav, gdA, opI, rawI, vbin, srcOf, avsD, acsD, AV.toD, AC.toD, AV.nw, AC.nw, AC.one, Value.oneCell', fillA, D.one, D.ones, D.sz, D.szs, Nat.reduceAdd, Nat.reduceSub, Nat.reduceLeDiff, Nat.reduceEqDiff, reduceIte, pkN, li_acs, ls_acs, sl_acs, GCell.acs_eq, GCell.flat_eq, GCell.agg_eq, GCell.el, GNb.acs_eq, GNb.flat_eq, GNb.agg_eq, el_ints, el_strs, hw1, hT, hbl, hL, hmin, hq, List.drop_zero, hv, agg_flat', flats_cons', flats_nil', agg_agg']) | (first | (with_reducible rfl) | (with_reducible refine fnok_id ?_; kernel_rfl) | exact el_strs _ | exact el_ints _ | exact el_ln _ | exact el_tk _ _ | exact el_td _ _ _ | omega | (simp; done) | (simp; omega)) | ((with_reducible refine args_id ?_); simp [ArgsOk, ArgOk, argsD, argD, AC.toD, Value.oneCell', sl_flat, leaf_flat, li_flat, ls_flat, sl_agg, leaf_agg, li_agg, ls_agg, mo_t, mo_f, li_acs, ls_acs, sl_acs, GCell.acs_eq, GCell.flat_eq, GCell.agg_eq, GCell.el, GNb.acs_eq, GNb.flat_eq, GNb.agg_eq, el_ints, el_strs, hw1, hT, hbl, hL, hmin, hq, List.drop_zero, hv, agg_flat', flats_cons', flats_nil', agg_agg']; first | done | rfl))
      exact endRet ⟨[0], by simp, ⟨⟨_, rfl, by rw [hfin], Or.inl rfl⟩, trivial⟩, ⟨0, _, rfl, rfl, ⟨rfl, rfl, _, rfl, rfl⟩, trivial⟩, ⟨_, rfl, rfl, trivial⟩⟩
theorem cnts_cells : ∀ (l : List GCell), D.cnts (l.map GCell.toD) = 6 * l.length
  | [] => rfl
  | x :: l => by
    rw [List.map_cons, D.cnts, cnts_cells l, GCell.toD_eq]
    simp [D.cnt, D.cnts, li, ls]
    omega
theorem parseNb_ok {s : ByteArray} (h : (parseNb s).1 ≠ []) : (parseNb s).2 = true := by
  unfold parseNb at h ⊢
  split at h
  · next h1 =>
    rw [if_pos h1]
    split at h
    · next h2 =>
      rw [if_pos h2]
      split at h
      · next h3 => rw [if_pos h3]
      · exact absurd rfl h
    · exact absurd rfl h
  · exact absurd rfl h
theorem parseNb_law_impl (s : ByteArray) (hs : s.size ≤ 1048576) (w : World) (ht : TabP w) : Calls Tryd.prog 29 #[.string s] w (PairPost (⟨(parseNb s).1⟩ : GNb).toD (.bool (parseNb s).2) w) := by
  by_cases hN : (parseNb s).1 = []
  · refine (parseNb_impl_nil s hs hN w [.string s] ⟨rd_of_leaf _, trivial⟩ ht).mono ?_
    rintro e w' ⟨v, rfl, ⟨us, rfl, h3⟩, h4⟩
    match us, h3 with
    | [a, b], ⟨⟨xs, h0, h5⟩, ⟨h6, _⟩, _⟩ =>
      subst h0
      obtain rfl : b = _ := h6
      match xs, h5 with
      | [x], ⟨h7, _⟩ =>
        obtain rfl : x = _ := h7
        rw [hN]
        exact ⟨[], [.slice none 0 0], rfl, GNb.opened.2 ⟨_, [], rfl, rfl, nil_read w'⟩, Free.nil, h4⟩
  · have h2 := parseNb_ok hN
    rw [h2]
    refine (of_outW (vs := [.string s]) (parseNb_impl_own s hs hN) (GCell.flatL _) ⟨rd_of_leaf _, trivial⟩ ht).mono ?_
    rintro e w' ⟨fp, v, rfl, h3, h4, h5⟩
    exact ⟨fp, [v], rfl, GNb.opened.2 ⟨v, fp, rfl, rfl, h3⟩, h4, h5⟩
theorem parseNb_law_spec (s : ByteArray) (hs : s.size ≤ 1048576) (w : World) (ht : TabP w) : Calls Tryd.prog 28 #[.string s] w (PairPostW (⟨(parseNb s).1⟩ : GNb).toD (.bool (parseNb s).2) w) :=
  pairW (ds := [ls s]) (d := (⟨(parseNb s).1⟩ : GNb).toD) (vs := [.string s]) (by rw [GNb.acs_eq]; exact parseNb_spec_to s hs) ⟨rd_of_leaf _, trivial⟩ ht
theorem parseNb_len (s : ByteArray) (hs : s.size ≤ 1048576) : (parseNb s).1.length ≤ 1048577 := by
  unfold parseNb
  split
  · split
    · split
      · rw [List.length_map]
        unfold bodyN
        rw [List.length_take]
        have := cut_le nlB s (by decide)
        unfold nlL
        omega
      · exact Nat.zero_le _
    · exact Nat.zero_le _
  · exact Nat.zero_le _
end Go.Proofs.YtdjcflnemnknaaaDoor
