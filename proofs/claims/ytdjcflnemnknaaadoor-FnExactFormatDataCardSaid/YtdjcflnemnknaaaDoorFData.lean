/-
  Tables as text: both packages.
-/
import Derived.Test.YtdjcflnemnknaaaDoorSJoin
import Derived.Test.YtdjcflnemnknaaaDoorTbl2
namespace Go.Proofs.YtdjcflnemnknaaaDoor
open Go.RowKit
set_option linter.unusedSimpArgs false
set_option linter.unusedVariables false
def sepD : ByteArray := ⟨#[59, 32]⟩
def rowT (r : GRow) : ByteArray := joinB (r.cells.map fmtI) spB
/-- The text of the first k rows behind a head. -/
def fmtRows (l : List GRow) (hd : ByteArray) : Nat → ByteArray
  | 0 => hd
  | k + 1 => match l[k]? with | some r => fmtRows l hd k ++ sepD ++ rowT r | none => fmtRows l hd k
/-- The text of a table. -/
def fmtData (x : GVal) : ByteArray := if x.kind = 5 then (if validT x = true then fmtRows x.rows (joinB x.cols spB) x.rows.length else ⟨#[]⟩) else ⟨#[]⟩
theorem fmtRows_step {l : List GRow} {hd : ByteArray} {k : Nat} (h : k < l.length) : fmtRows l hd (k + 1) = fmtRows l hd k ++ sepD ++ rowT l[k] := by simp [fmtRows, h]
theorem inR_iff {n lo hi : Int} : inR n lo hi = true ↔ lo ≤ n ∧ n ≤ hi := by simp [inR]
theorem numB_iff {n : Int} (h : numB n = true) : -1000000000 ≤ n ∧ n ≤ 1000000000 := inR_iff.1 h
theorem validNm_size {s : ByteArray} (h : validNm s = true) : s.size ≤ 8 := by
  unfold validNm wordB at h
  simp only [Bool.and_eq_true, decide_eq_true_eq] at h
  omega
/-- What a valid table's parts are. -/
structure TblOk (x : GVal) : Prop where
  cols : x.cols.length ≤ 4
  names : ∀ s ∈ x.cols, s.size ≤ 8
  rows : x.rows.length ≤ 12
  cells : ∀ r ∈ x.rows, r.cells.length = x.cols.length
  nums : ∀ r ∈ x.rows, ∀ n ∈ r.cells, -1000000000 ≤ n ∧ n ≤ 1000000000
theorem tblOk_of {x : GVal} (h : validT x = true) : TblOk x := by
  have ht : tblB x = true := by
    unfold validT at h
    simp only [Bool.and_eq_true] at h
    exact h.2.2.2.2
  unfold tblB colsB at ht
  simp only [Bool.and_eq_true, decide_eq_true_eq] at ht
  obtain ⟨⟨h1, h2, _⟩, h3, h4⟩ := ht
  have h5 := (inR_iff.1 h2)
  refine ⟨by omega, fun s hs => validNm_size (allL_mem h1 s hs), h3, fun r hr => ?_, fun r hr n hn => ?_⟩
  · have := allL_mem h4 r hr
    unfold rowB at this
    simp only [Bool.and_eq_true, decide_eq_true_eq] at this
    exact this.1
  · have := allL_mem h4 r hr
    unfold rowB at this
    simp only [Bool.and_eq_true, decide_eq_true_eq] at this
    exact numB_iff (allL_mem this.2.2 n hn)
theorem rowT_len {x : GVal} (h : TblOk x) {r : GRow} (hr : r ∈ x.rows) : (joinK (r.cells.map fmtI) spB (r.cells.map fmtI).length).length ≤ 88 := by
  have h1 : ∀ s ∈ r.cells.map fmtI, s.size ≤ 21 := fun s hs => by
    obtain ⟨n, hn, rfl⟩ := List.mem_map.1 hs
    have := h.nums r hr n hn
    exact fmtI_len (by omega) (by omega)
  have h2 := joinK_bound (b := spB) h1 (r.cells.map fmtI).length
  have h3 := h.cells r hr
  have h4 := h.cols
  have e : spB.size = 1 := rfl
  rw [e, List.length_map] at h2
  rw [List.length_map]
  omega
theorem head_len {x : GVal} (h : TblOk x) : (joinK x.cols spB x.cols.length).length ≤ 36 := by
  have h2 := joinK_bound (b := spB) h.names x.cols.length
  have h4 := h.cols
  have e : spB.size = 1 := rfl
  rw [e] at h2
  omega
theorem fmtRows_len {x : GVal} (h : TblOk x) : ∀ k, (fmtRows x.rows (joinB x.cols spB) k).size ≤ 36 + k * 90
  | 0 => by
    have := head_len h
    rw [← joinB_size] at this
    simpa [fmtRows] using this
  | k + 1 => by
    have ih := fmtRows_len h k
    by_cases hk : k < x.rows.length
    · rw [fmtRows_step hk, ByteArray.size_append, ByteArray.size_append]
      have := rowT_len h (List.getElem_mem hk)
      rw [← joinB_size] at this
      have e : sepD.size = 2 := rfl
      unfold rowT
      omega
    · simp only [fmtRows]
      rw [List.getElem?_eq_none (by omega)]
      simp only
      omega
theorem take_mapI {l : List Int} {j : Nat} (h : j < l.length) : ((l.take (j + 1)).map fmtI).map ls = ((l.take j).map fmtI).map ls ++ [ls (fmtI l[j])] := by
  rw [List.take_succ_eq_append_getElem h, List.map_append, List.map_append]
  rfl
theorem take_mapN {α β : Type} {f : α → β} {l : List α} {j : Nat} (h : j < l.length) : (l.map f).take (j + 1) = (l.map f).take j ++ [f l[j]] := by
  rw [List.take_succ_eq_append_getElem (by simpa using h), List.getElem_map]
def ic_fd_spec : IC := (.seq (.reg false [⟨(some 1), none, .box (.t 0)⟩, ⟨(some 2), none, .mov (.k (.string ⟨#[]⟩))⟩]) (.seq (.seq (.reg false [⟨(some 7), none, .fad 0 (.t 1)⟩, ⟨(some 8), none, .load 1 false (.t 7)⟩, ⟨(some 9), none, .bin .neq (.t 8) (.k (.int .i64 5))⟩, ⟨(some 10), none, .mov (.t 9)⟩, ⟨(some 11), (some (10, false)), .load 7 true (.t 1)⟩, ⟨(some 12), (some (10, false)), .call 45 [(.t 11)]⟩, ⟨(some 13), (some (10, false)), .not (.t 12)⟩, ⟨(some 14), none, .pick (.t 10) (.k (.bool true)) (.t 13)⟩]) (.cond (.t 14) (.seq (.reg false [⟨(some 2), none, .mov (.k (.string ⟨#[]⟩))⟩]) .ret) .skip)) (.seq (.reg false [⟨(some 15), none, .fad 5 (.t 1)⟩, ⟨(some 16), none, .load 1 false (.t 15)⟩, ⟨(some 17), none, .call 33 [(.t 16), (.k (.string ⟨#[32]⟩))]⟩, ⟨(some 3), none, .mov (.t 17)⟩]) (.seq (.seq (.reg false [⟨(some 4), none, .mov (.k (.int .i64 0))⟩]) (.block 0 (.loop (.seq (.seq (.reg false [⟨(some 18), none, .mov (.t 4)⟩, ⟨(some 19), none, .fad 6 (.t 1)⟩, ⟨(some 20), none, .load 1 false (.t 19)⟩, ⟨(some 21), none, .len false (.t 20)⟩, ⟨(some 22), none, .bin .lss (.t 18) (.t 21)⟩]) (.cond (.t 22) .skip (.exit 0))) (.seq (.block 1 (.seq (.reg false [⟨(some 25), none, .brow true 9 1 0 false []⟩, ⟨(some 5), none, .mov (.t 25)⟩]) (.seq (.seq (.reg false [⟨(some 6), none, .mov (.k (.int .i64 0))⟩]) (.block 2 (.loop (.seq (.seq (.reg false [⟨(some 26), none, .mov (.t 6)⟩, ⟨(some 27), none, .fad 6 (.t 1)⟩, ⟨(some 28), none, .load 1 false (.t 27)⟩, ⟨(some 29), none, .mov (.t 4)⟩, ⟨(some 30), none, .iad 2 (.t 28) (.t 29)⟩, ⟨(some 31), none, .fad 0 (.t 30)⟩, ⟨(some 32), none, .load 1 false (.t 31)⟩, ⟨(some 33), none, .len false (.t 32)⟩, ⟨(some 34), none, .bin .lss (.t 26) (.t 33)⟩]) (.cond (.t 34) .skip (.exit 2))) (.seq (.block 3 (.reg false [⟨(some 37), none, .mov (.t 5)⟩, ⟨(some 38), none, .fad 6 (.t 1)⟩, ⟨(some 39), none, .load 1 false (.t 38)⟩, ⟨(some 40), none, .mov (.t 4)⟩, ⟨(some 41), none, .iad 2 (.t 39) (.t 40)⟩, ⟨(some 42), none, .fad 0 (.t 41)⟩, ⟨(some 43), none, .load 1 false (.t 42)⟩, ⟨(some 44), none, .mov (.t 6)⟩, ⟨(some 45), none, .iad 1 (.t 43) (.t 44)⟩, ⟨(some 46), none, .load 1 false (.t 45)⟩, ⟨(some 47), none, .call 34 [(.t 46)]⟩, ⟨(some 48), none, .brow false 9 1 1 false [(.t 47)]⟩, ⟨(some 49), none, .app 9 1 (.t 37) (.t 48)⟩, ⟨(some 5), none, .mov (.t 49)⟩])) (.reg false [⟨(some 35), none, .mov (.t 6)⟩, ⟨(some 36), none, .bin .add (.t 35) (.k (.int .i64 1))⟩, ⟨(some 6), none, .mov (.t 36)⟩])))))) (.reg false [⟨(some 50), none, .mov (.t 3)⟩, ⟨(some 51), none, .bin .add (.t 50) (.k (.string ⟨#[59, 32]⟩))⟩, ⟨(some 52), none, .mov (.t 5)⟩, ⟨(some 53), none, .call 33 [(.t 52), (.k (.string ⟨#[32]⟩))]⟩, ⟨(some 54), none, .bin .add (.t 51) (.t 53)⟩, ⟨(some 3), none, .mov (.t 54)⟩])))) (.reg false [⟨(some 23), none, .mov (.t 4)⟩, ⟨(some 24), none, .bin .add (.t 23) (.k (.int .i64 1))⟩, ⟨(some 4), none, .mov (.t 24)⟩])))))) (.seq (.reg false [⟨(some 55), none, .mov (.t 3)⟩, ⟨(some 2), none, .mov (.t 55)⟩]) .ret)))))
theorem ic_fd_spec_ok : compC Tryd.prog (Tryd.f19.body.getD .skip) = some ic_fd_spec := by kernel_rfl
set_option maxHeartbeats 8000000 in
theorem formatData_spec_to (x : GVal) (hs : x.small) (hl : x.list.length ≤ 1048576) : CallsTo Tryd.prog 19 [x.toD] (.c false [.raw (.string (fmtData x))]) := by
  refine calls_one (fn := Tryd.f19) (t := 2) (by kernel_rfl) (by kernel_rfl) (by kernel_rfl) ic_fd_spec_ok ?_
  unfold ic_fd_spec
  change AWP _ _ _ (st0 56 _)
  simp only [undef, stS, st0, stN, D.av, D.avN, sl_agg, leaf_agg, li_agg, ls_agg, sl_acs, leaf_acs, li_acs, ls_acs, GRow.acs_eq, GRow.flat_eq, GRow.agg_eq, GVal.acs_eq, GVal.flat_eq, GVal.agg_eq, List.map_cons, List.map_nil, List.replicate, List.cons_append, List.nil_append, List.length_cons, List.length_nil, Nat.reduceAdd, Nat.reduceSub]
  by_cases hkd : x.kind = 5
  case neg =>
    have hk : (x.kind != 5) = true := by simpa using hkd
    have hf : fmtData x = ⟨#[]⟩ := if_neg hkd
    repeat' (first | (with_reducible first | refine awp_seq ?_ | refine awp_block ?_ | refine awp_skip ?_ | refine awp_exit ?_ | refine awp_ret ?_ | refine athen ?_ | refine thenExit ?_ | refine thenRet ?_ | refine blockNormal ?_ | refine blockExit ?_ | refine blockRet ?_ | refine roundExit ?_ | refine roundRet ?_ | refine roundExitR ?_ | refine roundRetR ?_) | ((with_reducible refine blockPass ?_ ?_); rfl) | ((with_reducible refine awp_condT ?_ ?_); rfl) | ((with_reducible refine awp_condF ?_ ?_); rfl) | (with_reducible (refine awp_condS rfl ?_ ?_); all_goals (intro hb; have hb' := hb; (try simp only [pkC] at hb'); first | (exfalso; omega) | skip)) | ((with_reducible refine awp_reg ?_); intro K hK) | ((with_reducible refine sw_guardT ?_ ?_); rfl) | ((with_reducible refine sw_guardF ?_ ?_); (rfl; try simp only [St.put, undef, pkA, Nat.reduceAdd, Nat.reduceSub, Nat.reduceLeDiff, Nat.reduceEqDiff])) | (with_reducible (refine sw_guardS rfl ?_ ?_); all_goals (intro hb; have hb' := hb; (try simp only [pkC] at hb'); first | (exfalso; omega) | skip)) | ((with_reducible refine hK _ ?_); clear hK K) | (with_reducible refine and_split ?_ ?_) | ((with_reducible refine sw_id ?_); simp (disch := first | decide | omega) only [↓pkS, pkW, pkA, undef, capsOf, ex, St.put, St.ev, kav, gdA, opI, rawI, vbin, srcOf, avsD, acsD, AV.toD, AC.toD, AV.nw, AC.nw, AC.one, Value.oneCell', fillA, D.one, D.ones, D.sz, D.szs, Nat.reduceAdd, Nat.reduceSub, Nat.reduceLeDiff, Nat.reduceEqDiff, reduceIte, pkN, li_acs, ls_acs, sl_acs, GRow.acs_eq, GRow.flat_eq, GRow.agg_eq, GRow.el, GVal.acs_eq, GVal.flat_eq, GVal.agg_eq, el_ints, el_strs, hk]) | (first | (with_reducible rfl) | (with_reducible refine fnok_id ?_; kernel_rfl) | exact el_strs _ | exact el_ints _ | exact el_ln _ | exact el_tk _ _ | exact el_td _ _ _ | omega | (simp; done) | (simp; omega)) | ((with_reducible refine args_id ?_); simp [ArgsOk, ArgOk, argsD, argD, AC.toD, Value.oneCell', sl_flat, leaf_flat, li_flat, ls_flat, sl_agg, leaf_agg, li_agg, ls_agg, mo_t, mo_f, li_acs, ls_acs, sl_acs, GRow.acs_eq, GRow.flat_eq, GRow.agg_eq, GRow.el, GVal.acs_eq, GVal.flat_eq, GVal.agg_eq, el_ints, el_strs, hk]; first | done | rfl))
    exact endRet ⟨_, rfl, by rw [hf]; rfl, trivial⟩
  have hval := val_spec_to x hs hkd hl
  have hk : (x.kind != 5) = false := by simpa using hkd
  cases hv : validT x with
  | false =>
    rw [hv] at hval
    have hf : fmtData x = ⟨#[]⟩ := by unfold fmtData; rw [if_pos hkd, hv]; rfl
    repeat' (first | (with_reducible first | refine awp_seq ?_ | refine awp_block ?_ | refine awp_skip ?_ | refine awp_exit ?_ | refine awp_ret ?_ | refine athen ?_ | refine thenExit ?_ | refine thenRet ?_ | refine blockNormal ?_ | refine blockExit ?_ | refine blockRet ?_ | refine roundExit ?_ | refine roundRet ?_ | refine roundExitR ?_ | refine roundRetR ?_) | ((with_reducible refine blockPass ?_ ?_); rfl) | ((with_reducible refine awp_condT ?_ ?_); rfl) | ((with_reducible refine awp_condF ?_ ?_); rfl) | (with_reducible (refine awp_condS rfl ?_ ?_); all_goals (intro hb; have hb' := hb; (try simp only [pkC] at hb'); first | (exfalso; omega) | skip)) | ((with_reducible refine awp_reg ?_); intro K hK) | ((with_reducible refine sw_guardT ?_ ?_); rfl) | ((with_reducible refine sw_guardF ?_ ?_); (rfl; try simp only [St.put, undef, pkA, Nat.reduceAdd, Nat.reduceSub, Nat.reduceLeDiff, Nat.reduceEqDiff])) | (with_reducible (refine sw_guardS rfl ?_ ?_); all_goals (intro hb; have hb' := hb; (try simp only [pkC] at hb'); first | (exfalso; omega) | skip)) | ((with_reducible refine hK _ ?_); clear hK K) | (with_reducible refine and_split ?_ ?_) | ((with_reducible refine ct_id ?_); first | (refine callThen hval trivial ?_ ?_)) | ((with_reducible refine ctd_id ?_); first | (refine callThenD hval trivial ?_ ?_)) | ((with_reducible refine sw_id ?_); simp (disch := first | decide | omega) only [↓pkS, pkW, pkA, undef, capsOf, ex, St.put, St.ev, kav, gdA, opI, rawI, vbin, srcOf, avsD, acsD, AV.toD, AC.toD, AV.nw, AC.nw, AC.one, Value.oneCell', fillA, D.one, D.ones, D.sz, D.szs, Nat.reduceAdd, Nat.reduceSub, Nat.reduceLeDiff, Nat.reduceEqDiff, reduceIte, pkN, li_acs, ls_acs, sl_acs, GRow.acs_eq, GRow.flat_eq, GRow.agg_eq, GRow.el, GVal.acs_eq, GVal.flat_eq, GVal.agg_eq, el_ints, el_strs, hk, hv]) | (first | (with_reducible rfl) | (with_reducible refine fnok_id ?_; kernel_rfl) | exact el_strs _ | exact el_ints _ | exact el_ln _ | exact el_tk _ _ | exact el_td _ _ _ | omega | (simp; done) | (simp; omega)) | ((with_reducible refine args_id ?_); simp [ArgsOk, ArgOk, argsD, argD, AC.toD, Value.oneCell', sl_flat, leaf_flat, li_flat, ls_flat, sl_agg, leaf_agg, li_agg, ls_agg, mo_t, mo_f, li_acs, ls_acs, sl_acs, GRow.acs_eq, GRow.flat_eq, GRow.agg_eq, GRow.el, GVal.acs_eq, GVal.flat_eq, GVal.agg_eq, el_ints, el_strs, hk, hv]; first | done | rfl))
    exact endRet ⟨_, rfl, by rw [hf]; rfl, trivial⟩
  | true =>
  rw [hv] at hval
  have hres : fmtData x = fmtRows x.rows (joinB x.cols spB) x.rows.length := by unfold fmtData; rw [if_pos hkd, if_pos hv]
  have hok := tblOk_of hv
  have hrl := hs.rows
  have hJ := join_spec_to x.cols spB (Nat.le_trans (head_len hok) (by decide)) (Nat.le_trans hok.cols (by decide))
  obtain ⟨hd0, hd0e⟩ : ∃ y, joinB x.cols spB = y := ⟨_, rfl⟩
  rw [hd0e] at hJ hres
  unfold spB at hJ
  repeat' (first | (with_reducible first | refine awp_seq ?_ | refine awp_block ?_ | refine awp_skip ?_ | refine awp_exit ?_ | refine awp_ret ?_ | refine athen ?_ | refine thenExit ?_ | refine thenRet ?_ | refine blockNormal ?_ | refine blockExit ?_ | refine blockRet ?_ | refine roundExit ?_ | refine roundRet ?_ | refine roundExitR ?_ | refine roundRetR ?_) | ((with_reducible refine blockPass ?_ ?_); rfl) | ((with_reducible refine awp_condT ?_ ?_); rfl) | ((with_reducible refine awp_condF ?_ ?_); rfl) | (with_reducible (refine awp_condS rfl ?_ ?_); all_goals (intro hb; have hb' := hb; (try simp only [pkC] at hb'); first | (exfalso; omega) | skip)) | ((with_reducible refine awp_reg ?_); intro K hK) | ((with_reducible refine sw_guardT ?_ ?_); rfl) | ((with_reducible refine sw_guardF ?_ ?_); (rfl; try simp only [St.put, undef, pkA, Nat.reduceAdd, Nat.reduceSub, Nat.reduceLeDiff, Nat.reduceEqDiff])) | (with_reducible (refine sw_guardS rfl ?_ ?_); all_goals (intro hb; have hb' := hb; (try simp only [pkC] at hb'); first | (exfalso; omega) | skip)) | ((with_reducible refine hK _ ?_); clear hK K) | (with_reducible refine and_split ?_ ?_) | ((with_reducible refine ct_id ?_); first | (refine callThen hval trivial ?_ ?_) | (refine callThen hJ trivial ?_ ?_)) | ((with_reducible refine ctd_id ?_); first | (refine callThenD hval trivial ?_ ?_) | (refine callThenD hJ trivial ?_ ?_)) | ((with_reducible refine sw_id ?_); simp (disch := first | decide | omega) only [↓pkS, pkW, pkA, undef, capsOf, ex, St.put, St.ev, kav, gdA, opI, rawI, vbin, srcOf, avsD, acsD, AV.toD, AC.toD, AV.nw, AC.nw, AC.one, Value.oneCell', fillA, D.one, D.ones, D.sz, D.szs, Nat.reduceAdd, Nat.reduceSub, Nat.reduceLeDiff, Nat.reduceEqDiff, reduceIte, pkN, li_acs, ls_acs, sl_acs, GRow.acs_eq, GRow.flat_eq, GRow.agg_eq, GRow.el, GVal.acs_eq, GVal.flat_eq, GVal.agg_eq, el_ints, el_strs, hk, hv]) | (first | (with_reducible rfl) | (with_reducible refine fnok_id ?_; kernel_rfl) | exact el_strs _ | exact el_ints _ | exact el_ln _ | exact el_tk _ _ | exact el_td _ _ _ | omega | (simp; done) | (simp; omega)) | ((with_reducible refine args_id ?_); simp [ArgsOk, ArgOk, argsD, argD, AC.toD, Value.oneCell', sl_flat, leaf_flat, li_flat, ls_flat, sl_agg, leaf_agg, li_agg, ls_agg, mo_t, mo_f, li_acs, ls_acs, sl_acs, GRow.acs_eq, GRow.flat_eq, GRow.agg_eq, GRow.el, GVal.acs_eq, GVal.flat_eq, GVal.agg_eq, el_ints, el_strs, hk, hv]; first | done | rfl))
  clear hJ hval
  refine awp_loopB (X := Nat) (fun q => [.d, .k, .d, .v (.c false [.raw (.string (fmtRows x.rows hd0 q))]), .v (.c false [.raw (.int .i64 (q : Nat))]), .d, .d, .d, .d, .d, .d, .d, .d, .d, .d, .d, .d, .d, .d, .d, .d, .d, .d, .d, .d, .d, .d, .d, .d, .d, .d, .d, .d, .d, .d, .d, .d, .d, .d, .d, .d, .d, .d, .d, .d, .d, .d, .d, .d, .d, .d, .d, .d, .d, .d, .d]) (fun q => []) (fun q bs => bs) (fun q => q ≤ x.rows.length) (fun q => x.rows.length - q) 0 (Nat.zero_le _) ?_ ?_
  · simp [StLe', FrLe, OwnLe, BoxLe, AV.fits, AC.fits, FB, mask, fmtRows, spB]
  rintro k hk0
  have hk1 : k ≤ x.rows.length := hk0
  simp only [FB, mask]
  by_cases hlt : k < x.rows.length
  · have hg := getq_mapF (f := GRow.toD) hlt
    have hcel := hs.cells _ (List.getElem_mem hlt)
    have hnum := hok.nums _ (List.getElem_mem hlt)
    have hrl1 := rowT_len hok (List.getElem_mem hlt)
    have htk0 : ∀ (l : List Int), ((l.take 0).map fmtI).map ls = [] := fun l => rfl
    repeat' (first | (with_reducible first | refine awp_seq ?_ | refine awp_block ?_ | refine awp_skip ?_ | refine awp_exit ?_ | refine awp_ret ?_ | refine athen ?_ | refine thenExit ?_ | refine thenRet ?_ | refine blockNormal ?_ | refine blockExit ?_ | refine blockRet ?_ | refine roundExit ?_ | refine roundRet ?_ | refine roundExitR ?_ | refine roundRetR ?_) | ((with_reducible refine blockPass ?_ ?_); rfl) | ((with_reducible refine awp_condT ?_ ?_); rfl) | ((with_reducible refine awp_condF ?_ ?_); rfl) | (with_reducible (refine awp_condS rfl ?_ ?_); all_goals (intro hb; have hb' := hb; (try simp only [pkC] at hb'); first | (exfalso; omega) | skip)) | ((with_reducible refine awp_reg ?_); intro K hK) | ((with_reducible refine sw_guardT ?_ ?_); rfl) | ((with_reducible refine sw_guardF ?_ ?_); (rfl; try simp only [St.put, undef, pkA, Nat.reduceAdd, Nat.reduceSub, Nat.reduceLeDiff, Nat.reduceEqDiff])) | (with_reducible (refine sw_guardS rfl ?_ ?_); all_goals (intro hb; have hb' := hb; (try simp only [pkC] at hb'); first | (exfalso; omega) | skip)) | ((with_reducible refine hK _ ?_); clear hK K) | (with_reducible refine and_split ?_ ?_) | ((with_reducible refine sw_id ?_); simp (disch := first | decide | omega) only [↓pkS, pkW, pkA, undef, capsOf, ex, St.put, St.ev, kav, gdA, opI, rawI, vbin, srcOf, avsD, acsD, AV.toD, AC.toD, AV.nw, AC.nw, AC.one, Value.oneCell', fillA, D.one, D.ones, D.sz, D.szs, Nat.reduceAdd, Nat.reduceSub, Nat.reduceLeDiff, Nat.reduceEqDiff, reduceIte, pkN, li_acs, ls_acs, sl_acs, GRow.acs_eq, GRow.flat_eq, GRow.agg_eq, GRow.el, GVal.acs_eq, GVal.flat_eq, GVal.agg_eq, el_ints, el_strs, hg]) | (first | (with_reducible rfl) | (with_reducible refine fnok_id ?_; kernel_rfl) | exact el_strs _ | exact el_ints _ | exact el_ln _ | exact el_tk _ _ | exact el_td _ _ _ | omega | (simp; done) | (simp; omega)) | ((with_reducible refine args_id ?_); simp [ArgsOk, ArgOk, argsD, argD, AC.toD, Value.oneCell', sl_flat, leaf_flat, li_flat, ls_flat, sl_agg, leaf_agg, li_agg, ls_agg, mo_t, mo_f, li_acs, ls_acs, sl_acs, GRow.acs_eq, GRow.flat_eq, GRow.agg_eq, GRow.el, GVal.acs_eq, GVal.flat_eq, GVal.agg_eq, el_ints, el_strs, hg]; first | done | rfl))
    refine awp_loopB (X := Nat × Nat) (fun q => [.d, .k, .d, .k, .k, .v (.c false [.own 0 q.2]), .v (.c false [.raw (.int .i64 (q.1 : Nat))]), .d, .d, .d, .d, .d, .d, .d, .d, .d, .d, .d, .d, .d, .d, .d, .d, .d, .d, .d, .d, .d, .d, .d, .d, .d, .d, .d, .d, .d, .d, .d, .d, .d, .d, .d, .d, .d, .d, .d, .d, .d, .d, .d, .d, .d, .d, .d, .d, .d]) (fun q => [⟨((x.rows[k].cells.take q.1).map fmtI).map ls, 9, 1, q.2, true⟩]) (fun q bs => bs) (fun q => q.1 ≤ x.rows[k].cells.length) (fun q => x.rows[k].cells.length - q.1) (0, 0) (Nat.zero_le _) ?_ ?_
    · simp [StLe', FrLe, OwnLe, BoxLe, AV.fits, AC.fits, FB, mask, htk0]
    rintro ⟨j, ver⟩ hj0
    have hj : j ≤ x.rows[k].cells.length := hj0
    simp only [FB, mask]
    by_cases hjl : j < x.rows[k].cells.length
    · have hgj := getq_mapF (f := li) hjl
      have hin : (((x.rows[k].cells.take j).map fmtI).map ls).length ≤ 1048576 := by simp only [List.length_map, List.length_take]; omega
      have hnj := hnum _ (List.getElem_mem hjl)
      have hfi := formatInt_spec_to (n := x.rows[k].cells[j]) (by omega) (by omega)
      have htk1 := take_mapI hjl
      repeat' (first | (with_reducible first | refine awp_seq ?_ | refine awp_block ?_ | refine awp_skip ?_ | refine awp_exit ?_ | refine awp_ret ?_ | refine athen ?_ | refine thenExit ?_ | refine thenRet ?_ | refine blockNormal ?_ | refine blockExit ?_ | refine blockRet ?_ | refine roundExit ?_ | refine roundRet ?_ | refine roundExitR ?_ | refine roundRetR ?_) | ((with_reducible refine blockPass ?_ ?_); rfl) | ((with_reducible refine awp_condT ?_ ?_); rfl) | ((with_reducible refine awp_condF ?_ ?_); rfl) | (with_reducible (refine awp_condS rfl ?_ ?_); all_goals (intro hb; have hb' := hb; (try simp only [pkC] at hb'); first | (exfalso; omega) | skip)) | ((with_reducible refine awp_reg ?_); intro K hK) | ((with_reducible refine sw_guardT ?_ ?_); rfl) | ((with_reducible refine sw_guardF ?_ ?_); (rfl; try simp only [St.put, undef, pkA, Nat.reduceAdd, Nat.reduceSub, Nat.reduceLeDiff, Nat.reduceEqDiff])) | (with_reducible (refine sw_guardS rfl ?_ ?_); all_goals (intro hb; have hb' := hb; (try simp only [pkC] at hb'); first | (exfalso; omega) | skip)) | ((with_reducible refine hK _ ?_); clear hK K) | (with_reducible refine and_split ?_ ?_) | ((with_reducible refine ct_id ?_); first | (refine callThen hfi trivial ?_ ?_)) | ((with_reducible refine ctd_id ?_); first | (refine callThenD hfi trivial ?_ ?_)) | ((with_reducible refine sw_id ?_); simp (disch := first | decide | omega) only [↓pkS, pkW, pkA, undef, capsOf, ex, St.put, St.ev, kav, gdA, opI, rawI, vbin, srcOf, avsD, acsD, AV.toD, AC.toD, AV.nw, AC.nw, AC.one, Value.oneCell', fillA, D.one, D.ones, D.sz, D.szs, Nat.reduceAdd, Nat.reduceSub, Nat.reduceLeDiff, Nat.reduceEqDiff, reduceIte, pkN, li_acs, ls_acs, sl_acs, GRow.acs_eq, GRow.flat_eq, GRow.agg_eq, GRow.el, GVal.acs_eq, GVal.flat_eq, GVal.agg_eq, el_ints, el_strs, hgj, hg, hin]) | (first | (with_reducible rfl) | (with_reducible refine fnok_id ?_; kernel_rfl) | exact el_strs _ | exact el_ints _ | exact el_ln _ | exact el_tk _ _ | exact el_td _ _ _ | omega | (simp; done) | (simp; omega)) | ((with_reducible refine args_id ?_); simp [ArgsOk, ArgOk, argsD, argD, AC.toD, Value.oneCell', sl_flat, leaf_flat, li_flat, ls_flat, sl_agg, leaf_agg, li_agg, ls_agg, mo_t, mo_f, li_acs, ls_acs, sl_acs, GRow.acs_eq, GRow.flat_eq, GRow.agg_eq, GRow.el, GVal.acs_eq, GVal.flat_eq, GVal.agg_eq, el_ints, el_strs, hgj, hg, hin]; first | done | rfl))
      refine roundB (j + 1, ver + 1) ?_ (show j + 1 ≤ x.rows[k].cells.length by omega) (show x.rows[k].cells.length - (j + 1) < x.rows[k].cells.length - j by omega)
      simp [StLe', FrLe, OwnLe, BoxLe, AV.fits, AC.fits, FB, mask, take_mapN hjl, ls]
    obtain rfl : j = x.rows[k].cells.length := by omega
    have hJr := join_spec_to (x.rows[k].cells.map fmtI) spB (Nat.le_trans hrl1 (by decide)) (by rw [List.length_map]; omega)
    have htk : x.rows[k].cells.take x.rows[k].cells.length = x.rows[k].cells := List.take_length
    have hl1 := fmtRows_len hok k
    rw [hd0e] at hl1
    have e5 : sepD.size = 2 := rfl
    obtain ⟨rt, ert⟩ : ∃ y, rowT x.rows[k] = y := ⟨_, rfl⟩
    have hrs : rt.size ≤ 88 := by rw [← ert]; unfold rowT; rw [joinB_size]; exact hrl1
    have hrows := hok.rows
    have hstep := fmtRows_step (hd := hd0) hlt
    rw [ert] at hstep
    have q1 := catf2 (a := fmtRows x.rows hd0 k) (b := sepD) (by omega)
    have r1 := catf3 (a := fmtRows x.rows hd0 k) (b := sepD) (by omega)
    have q2 := catf2 (a := fmtRows x.rows hd0 k ++ sepD) (b := rt) (by rw [ByteArray.size_append]; omega)
    have r2 := catf3 (a := fmtRows x.rows hd0 k ++ sepD) (b := rt) (by rw [ByteArray.size_append]; omega)
    have eR : joinB (x.rows[k].cells.map fmtI) spB = rt := ert
    rw [eR] at hJr
    unfold spB at hJr
    simp only [sepD] at q1 r1 q2 r2 hstep
    clear hl1 hrs
    repeat' (first | (with_reducible first | refine awp_seq ?_ | refine awp_block ?_ | refine awp_skip ?_ | refine awp_exit ?_ | refine awp_ret ?_ | refine athen ?_ | refine thenExit ?_ | refine thenRet ?_ | refine blockNormal ?_ | refine blockExit ?_ | refine blockRet ?_ | refine roundExit ?_ | refine roundRet ?_ | refine roundExitR ?_ | refine roundRetR ?_) | ((with_reducible refine blockPass ?_ ?_); rfl) | ((with_reducible refine awp_condT ?_ ?_); rfl) | ((with_reducible refine awp_condF ?_ ?_); rfl) | (with_reducible (refine awp_condS rfl ?_ ?_); all_goals (intro hb; have hb' := hb; (try simp only [pkC] at hb'); first | (exfalso; omega) | skip)) | ((with_reducible refine awp_reg ?_); intro K hK) | ((with_reducible refine sw_guardT ?_ ?_); rfl) | ((with_reducible refine sw_guardF ?_ ?_); (rfl; try simp only [St.put, undef, pkA, Nat.reduceAdd, Nat.reduceSub, Nat.reduceLeDiff, Nat.reduceEqDiff])) | (with_reducible (refine sw_guardS rfl ?_ ?_); all_goals (intro hb; have hb' := hb; (try simp only [pkC] at hb'); first | (exfalso; omega) | skip)) | ((with_reducible refine hK _ ?_); clear hK K) | (with_reducible refine and_split ?_ ?_) | ((with_reducible refine ct_id ?_); first | (refine callThen hJr trivial ?_ ?_)) | ((with_reducible refine ctd_id ?_); first | (refine callThenD hJr trivial ?_ ?_)) | ((with_reducible refine sw_id ?_); simp (disch := first | decide | omega) only [↓pkS, pkW, pkA, undef, capsOf, ex, St.put, St.ev, kav, gdA, opI, rawI, vbin, srcOf, avsD, acsD, AV.toD, AC.toD, AV.nw, AC.nw, AC.one, Value.oneCell', fillA, D.one, D.ones, D.sz, D.szs, Nat.reduceAdd, Nat.reduceSub, Nat.reduceLeDiff, Nat.reduceEqDiff, reduceIte, pkN, li_acs, ls_acs, sl_acs, GRow.acs_eq, GRow.flat_eq, GRow.agg_eq, GRow.el, GVal.acs_eq, GVal.flat_eq, GVal.agg_eq, el_ints, el_strs, q1, r1, q2, r2, htk, hg]) | (first | (with_reducible rfl) | (with_reducible refine fnok_id ?_; kernel_rfl) | exact el_strs _ | exact el_ints _ | exact el_ln _ | exact el_tk _ _ | exact el_td _ _ _ | omega | (simp; done) | (simp; omega)) | ((with_reducible refine args_id ?_); simp [ArgsOk, ArgOk, argsD, argD, AC.toD, Value.oneCell', sl_flat, leaf_flat, li_flat, ls_flat, sl_agg, leaf_agg, li_agg, ls_agg, mo_t, mo_f, li_acs, ls_acs, sl_acs, GRow.acs_eq, GRow.flat_eq, GRow.agg_eq, GRow.el, GVal.acs_eq, GVal.flat_eq, GVal.agg_eq, el_ints, el_strs, q1, r1, q2, r2, htk, hg]; first | done | rfl))
    refine roundB (k + 1) ?_ (show k + 1 ≤ x.rows.length by omega) (show x.rows.length - (k + 1) < x.rows.length - k by omega)
    simp [StLe', FrLe, OwnLe, BoxLe, AV.fits, AC.fits, FB, mask, hstep]
  obtain rfl : k = x.rows.length := by omega
  repeat' (first | (with_reducible first | refine awp_seq ?_ | refine awp_block ?_ | refine awp_skip ?_ | refine awp_exit ?_ | refine awp_ret ?_ | refine athen ?_ | refine thenExit ?_ | refine thenRet ?_ | refine blockNormal ?_ | refine blockExit ?_ | refine blockRet ?_ | refine roundExit ?_ | refine roundRet ?_ | refine roundExitR ?_ | refine roundRetR ?_) | ((with_reducible refine blockPass ?_ ?_); rfl) | ((with_reducible refine awp_condT ?_ ?_); rfl) | ((with_reducible refine awp_condF ?_ ?_); rfl) | (with_reducible (refine awp_condS rfl ?_ ?_); all_goals (intro hb; have hb' := hb; (try simp only [pkC] at hb'); first | (exfalso; omega) | skip)) | ((with_reducible refine awp_reg ?_); intro K hK) | ((with_reducible refine sw_guardT ?_ ?_); rfl) | ((with_reducible refine sw_guardF ?_ ?_); (rfl; try simp only [St.put, undef, pkA, Nat.reduceAdd, Nat.reduceSub, Nat.reduceLeDiff, Nat.reduceEqDiff])) | (with_reducible (refine sw_guardS rfl ?_ ?_); all_goals (intro hb; have hb' := hb; (try simp only [pkC] at hb'); first | (exfalso; omega) | skip)) | ((with_reducible refine hK _ ?_); clear hK K) | (with_reducible refine and_split ?_ ?_) | ((with_reducible refine sw_id ?_); simp (disch := first | decide | omega) only [↓pkS, pkW, pkA, undef, capsOf, ex, St.put, St.ev, kav, gdA, opI, rawI, vbin, srcOf, avsD, acsD, AV.toD, AC.toD, AV.nw, AC.nw, AC.one, Value.oneCell', fillA, D.one, D.ones, D.sz, D.szs, Nat.reduceAdd, Nat.reduceSub, Nat.reduceLeDiff, Nat.reduceEqDiff, reduceIte, pkN, li_acs, ls_acs, sl_acs, GRow.acs_eq, GRow.flat_eq, GRow.agg_eq, GRow.el, GVal.acs_eq, GVal.flat_eq, GVal.agg_eq, el_ints, el_strs]) | (first | (with_reducible rfl) | (with_reducible refine fnok_id ?_; kernel_rfl) | exact el_strs _ | exact el_ints _ | exact el_ln _ | exact el_tk _ _ | exact el_td _ _ _ | omega | (simp; done) | (simp; omega)) | ((with_reducible refine args_id ?_); simp [ArgsOk, ArgOk, argsD, argD, AC.toD, Value.oneCell', sl_flat, leaf_flat, li_flat, ls_flat, sl_agg, leaf_agg, li_agg, ls_agg, mo_t, mo_f, li_acs, ls_acs, sl_acs, GRow.acs_eq, GRow.flat_eq, GRow.agg_eq, GRow.el, GVal.acs_eq, GVal.flat_eq, GVal.agg_eq, el_ints, el_strs]; first | done | rfl))
  exact endRet ⟨_, rfl, by rw [hres]; rfl, trivial⟩
def ic_fd_impl : IC := (.seq (.reg false [⟨(some 1), none, .box (.t 0)⟩, ⟨(some 2), none, .mov (.k (.string ⟨#[]⟩))⟩]) (.seq (.seq (.reg false [⟨(some 9), none, .fad 0 (.t 1)⟩, ⟨(some 10), none, .load 1 false (.t 9)⟩, ⟨(some 11), none, .bin .neq (.t 10) (.k (.int .i64 5))⟩, ⟨(some 12), none, .mov (.t 11)⟩, ⟨(some 13), (some (12, false)), .load 7 true (.t 1)⟩, ⟨(some 14), (some (12, false)), .call 49 [(.t 13)]⟩, ⟨(some 15), (some (12, false)), .not (.t 14)⟩, ⟨(some 16), none, .pick (.t 12) (.k (.bool true)) (.t 15)⟩]) (.cond (.t 16) (.seq (.reg false [⟨(some 2), none, .mov (.k (.string ⟨#[]⟩))⟩]) .ret) .skip)) (.seq (.reg false [⟨(some 17), none, .fad 5 (.t 1)⟩, ⟨(some 18), none, .load 1 false (.t 17)⟩, ⟨(some 19), none, .call 50 [(.t 18), (.k (.string ⟨#[32]⟩))]⟩, ⟨(some 3), none, .mov (.t 19)⟩]) (.seq (.seq (.reg false [⟨(some 20), none, .fad 6 (.t 1)⟩, ⟨(some 21), none, .load 1 false (.t 20)⟩, ⟨(some 22), none, .len false (.t 21)⟩, ⟨(some 23), none, .mov (.k (.int .i64 0))⟩]) (.block 0 (.loop (.seq (.reg false [⟨(some 24), none, .bin .lss (.t 23) (.t 22)⟩]) (.seq (.cond (.t 24) .skip (.exit 0)) (.seq (.block 1 (.seq (.reg false [⟨(some 25), none, .iad 2 (.t 21) (.t 23)⟩, ⟨(some 26), none, .load 2 true (.t 25)⟩, ⟨(some 5), none, .alloc [(.slice none 0 0), (.slice none 0 0)]⟩, ⟨none, none, .store 2 (.t 5) (.t 26)⟩]) (.seq (.reg false [⟨(some 27), none, .brow true 9 1 0 false []⟩, ⟨(some 6), none, .mov (.t 27)⟩]) (.seq (.seq (.reg false [⟨(some 28), none, .fad 0 (.t 5)⟩, ⟨(some 29), none, .load 1 false (.t 28)⟩, ⟨(some 30), none, .len false (.t 29)⟩, ⟨(some 31), none, .mov (.k (.int .i64 0))⟩]) (.block 2 (.loop (.seq (.reg false [⟨(some 32), none, .bin .lss (.t 31) (.t 30)⟩]) (.seq (.cond (.t 32) .skip (.exit 2)) (.seq (.block 3 (.seq (.reg false [⟨(some 33), none, .iad 1 (.t 29) (.t 31)⟩, ⟨(some 34), none, .load 1 false (.t 33)⟩, ⟨(some 8), none, .mov (.t 34)⟩]) (.reg false [⟨(some 35), none, .mov (.t 6)⟩, ⟨(some 36), none, .mov (.t 8)⟩, ⟨(some 37), none, .call 36 [(.t 36)]⟩, ⟨(some 38), none, .brow false 9 1 1 false [(.t 37)]⟩, ⟨(some 39), none, .app 9 1 (.t 35) (.t 38)⟩, ⟨(some 6), none, .mov (.t 39)⟩]))) (.reg false [⟨(some 40), none, .bin .add (.t 31) (.k (.int .i64 1))⟩, ⟨(some 31), none, .mov (.t 40)⟩]))))))) (.reg false [⟨(some 41), none, .mov (.t 3)⟩, ⟨(some 42), none, .bin .add (.t 41) (.k (.string ⟨#[59, 32]⟩))⟩, ⟨(some 43), none, .mov (.t 6)⟩, ⟨(some 44), none, .call 50 [(.t 43), (.k (.string ⟨#[32]⟩))]⟩, ⟨(some 45), none, .bin .add (.t 42) (.t 44)⟩, ⟨(some 3), none, .mov (.t 45)⟩]))))) (.reg false [⟨(some 46), none, .bin .add (.t 23) (.k (.int .i64 1))⟩, ⟨(some 23), none, .mov (.t 46)⟩]))))))) (.seq (.reg false [⟨(some 47), none, .mov (.t 3)⟩, ⟨(some 2), none, .mov (.t 47)⟩]) .ret)))))
theorem ic_fd_impl_ok : compC Tryd.prog (Tryd.f21.body.getD .skip) = some ic_fd_impl := by kernel_rfl
set_option maxHeartbeats 8000000 in
theorem formatData_impl_to (x : GVal) (hs : x.small) (hl : x.list.length ≤ 1048576) : CallsTo Tryd.prog 21 [x.toD] (.c false [.raw (.string (fmtData x))]) := by
  refine calls_one (fn := Tryd.f21) (t := 2) (by kernel_rfl) (by kernel_rfl) (by kernel_rfl) ic_fd_impl_ok ?_
  unfold ic_fd_impl
  change AWP _ _ _ (st0 48 _)
  simp only [undef, stS, st0, stN, D.av, D.avN, sl_agg, leaf_agg, li_agg, ls_agg, sl_acs, leaf_acs, li_acs, ls_acs, GRow.acs_eq, GRow.flat_eq, GRow.agg_eq, GVal.acs_eq, GVal.flat_eq, GVal.agg_eq, List.map_cons, List.map_nil, List.replicate, List.cons_append, List.nil_append, List.length_cons, List.length_nil, Nat.reduceAdd, Nat.reduceSub]
  by_cases hkd : x.kind = 5
  case neg =>
    have hk : (x.kind != 5) = true := by simpa using hkd
    have hf : fmtData x = ⟨#[]⟩ := if_neg hkd
    repeat' (first | (with_reducible first | refine awp_seq ?_ | refine awp_block ?_ | refine awp_skip ?_ | refine awp_exit ?_ | refine awp_ret ?_ | refine athen ?_ | refine thenExit ?_ | refine thenRet ?_ | refine blockNormal ?_ | refine blockExit ?_ | refine blockRet ?_ | refine roundExit ?_ | refine roundRet ?_ | refine roundExitR ?_ | refine roundRetR ?_) | ((with_reducible refine blockPass ?_ ?_); rfl) | ((with_reducible refine awp_condT ?_ ?_); rfl) | ((with_reducible refine awp_condF ?_ ?_); rfl) | (with_reducible (refine awp_condS rfl ?_ ?_); all_goals (intro hb; have hb' := hb; (try simp only [pkC] at hb'); first | (exfalso; omega) | skip)) | ((with_reducible refine awp_reg ?_); intro K hK) | ((with_reducible refine sw_guardT ?_ ?_); rfl) | ((with_reducible refine sw_guardF ?_ ?_); (rfl; try simp only [St.put, undef, pkA, Nat.reduceAdd, Nat.reduceSub, Nat.reduceLeDiff, Nat.reduceEqDiff])) | (with_reducible (refine sw_guardS rfl ?_ ?_); all_goals (intro hb; have hb' := hb; (try simp only [pkC] at hb'); first | (exfalso; omega) | skip)) | ((with_reducible refine hK _ ?_); clear hK K) | (with_reducible refine and_split ?_ ?_) | ((with_reducible refine sw_id ?_); simp (disch := first | decide | omega) only [↓pkS, pkW, pkA, undef, capsOf, ex, St.put, St.ev, kav, gdA, opI, rawI, vbin, srcOf, avsD, acsD, AV.toD, AC.toD, AV.nw, AC.nw, AC.one, Value.oneCell', fillA, D.one, D.ones, D.sz, D.szs, Nat.reduceAdd, Nat.reduceSub, Nat.reduceLeDiff, Nat.reduceEqDiff, reduceIte, pkN, li_acs, ls_acs, sl_acs, GRow.acs_eq, GRow.flat_eq, GRow.agg_eq, GRow.el, GVal.acs_eq, GVal.flat_eq, GVal.agg_eq, el_ints, el_strs, hk]) | (first | (with_reducible rfl) | (with_reducible refine fnok_id ?_; kernel_rfl) | exact el_strs _ | exact el_ints _ | exact el_ln _ | exact el_tk _ _ | exact el_td _ _ _ | omega | (simp; done) | (simp; omega)) | ((with_reducible refine args_id ?_); simp [ArgsOk, ArgOk, argsD, argD, AC.toD, Value.oneCell', sl_flat, leaf_flat, li_flat, ls_flat, sl_agg, leaf_agg, li_agg, ls_agg, mo_t, mo_f, li_acs, ls_acs, sl_acs, GRow.acs_eq, GRow.flat_eq, GRow.agg_eq, GRow.el, GVal.acs_eq, GVal.flat_eq, GVal.agg_eq, el_ints, el_strs, hk]; first | done | rfl))
    exact endRet ⟨_, rfl, by rw [hf]; rfl, trivial⟩
  have hval := val_impl_to x hs hkd hl
  have hk : (x.kind != 5) = false := by simpa using hkd
  cases hv : validT x with
  | false =>
    rw [hv] at hval
    have hf : fmtData x = ⟨#[]⟩ := by unfold fmtData; rw [if_pos hkd, hv]; rfl
    repeat' (first | (with_reducible first | refine awp_seq ?_ | refine awp_block ?_ | refine awp_skip ?_ | refine awp_exit ?_ | refine awp_ret ?_ | refine athen ?_ | refine thenExit ?_ | refine thenRet ?_ | refine blockNormal ?_ | refine blockExit ?_ | refine blockRet ?_ | refine roundExit ?_ | refine roundRet ?_ | refine roundExitR ?_ | refine roundRetR ?_) | ((with_reducible refine blockPass ?_ ?_); rfl) | ((with_reducible refine awp_condT ?_ ?_); rfl) | ((with_reducible refine awp_condF ?_ ?_); rfl) | (with_reducible (refine awp_condS rfl ?_ ?_); all_goals (intro hb; have hb' := hb; (try simp only [pkC] at hb'); first | (exfalso; omega) | skip)) | ((with_reducible refine awp_reg ?_); intro K hK) | ((with_reducible refine sw_guardT ?_ ?_); rfl) | ((with_reducible refine sw_guardF ?_ ?_); (rfl; try simp only [St.put, undef, pkA, Nat.reduceAdd, Nat.reduceSub, Nat.reduceLeDiff, Nat.reduceEqDiff])) | (with_reducible (refine sw_guardS rfl ?_ ?_); all_goals (intro hb; have hb' := hb; (try simp only [pkC] at hb'); first | (exfalso; omega) | skip)) | ((with_reducible refine hK _ ?_); clear hK K) | (with_reducible refine and_split ?_ ?_) | ((with_reducible refine ct_id ?_); first | (refine callThen hval trivial ?_ ?_)) | ((with_reducible refine ctd_id ?_); first | (refine callThenD hval trivial ?_ ?_)) | ((with_reducible refine sw_id ?_); simp (disch := first | decide | omega) only [↓pkS, pkW, pkA, undef, capsOf, ex, St.put, St.ev, kav, gdA, opI, rawI, vbin, srcOf, avsD, acsD, AV.toD, AC.toD, AV.nw, AC.nw, AC.one, Value.oneCell', fillA, D.one, D.ones, D.sz, D.szs, Nat.reduceAdd, Nat.reduceSub, Nat.reduceLeDiff, Nat.reduceEqDiff, reduceIte, pkN, li_acs, ls_acs, sl_acs, GRow.acs_eq, GRow.flat_eq, GRow.agg_eq, GRow.el, GVal.acs_eq, GVal.flat_eq, GVal.agg_eq, el_ints, el_strs, hk, hv]) | (first | (with_reducible rfl) | (with_reducible refine fnok_id ?_; kernel_rfl) | exact el_strs _ | exact el_ints _ | exact el_ln _ | exact el_tk _ _ | exact el_td _ _ _ | omega | (simp; done) | (simp; omega)) | ((with_reducible refine args_id ?_); simp [ArgsOk, ArgOk, argsD, argD, AC.toD, Value.oneCell', sl_flat, leaf_flat, li_flat, ls_flat, sl_agg, leaf_agg, li_agg, ls_agg, mo_t, mo_f, li_acs, ls_acs, sl_acs, GRow.acs_eq, GRow.flat_eq, GRow.agg_eq, GRow.el, GVal.acs_eq, GVal.flat_eq, GVal.agg_eq, el_ints, el_strs, hk, hv]; first | done | rfl))
    exact endRet ⟨_, rfl, by rw [hf]; rfl, trivial⟩
  | true =>
  rw [hv] at hval
  have hres : fmtData x = fmtRows x.rows (joinB x.cols spB) x.rows.length := by unfold fmtData; rw [if_pos hkd, if_pos hv]
  have hok := tblOk_of hv
  have hrl := hs.rows
  have hJ := join_impl_to x.cols spB (Nat.le_trans (head_len hok) (by decide)) (Nat.le_trans hok.cols (by decide))
  obtain ⟨hd0, hd0e⟩ : ∃ y, joinB x.cols spB = y := ⟨_, rfl⟩
  rw [hd0e] at hJ hres
  unfold spB at hJ
  repeat' (first | (with_reducible first | refine awp_seq ?_ | refine awp_block ?_ | refine awp_skip ?_ | refine awp_exit ?_ | refine awp_ret ?_ | refine athen ?_ | refine thenExit ?_ | refine thenRet ?_ | refine blockNormal ?_ | refine blockExit ?_ | refine blockRet ?_ | refine roundExit ?_ | refine roundRet ?_ | refine roundExitR ?_ | refine roundRetR ?_) | ((with_reducible refine blockPass ?_ ?_); rfl) | ((with_reducible refine awp_condT ?_ ?_); rfl) | ((with_reducible refine awp_condF ?_ ?_); rfl) | (with_reducible (refine awp_condS rfl ?_ ?_); all_goals (intro hb; have hb' := hb; (try simp only [pkC] at hb'); first | (exfalso; omega) | skip)) | ((with_reducible refine awp_reg ?_); intro K hK) | ((with_reducible refine sw_guardT ?_ ?_); rfl) | ((with_reducible refine sw_guardF ?_ ?_); (rfl; try simp only [St.put, undef, pkA, Nat.reduceAdd, Nat.reduceSub, Nat.reduceLeDiff, Nat.reduceEqDiff])) | (with_reducible (refine sw_guardS rfl ?_ ?_); all_goals (intro hb; have hb' := hb; (try simp only [pkC] at hb'); first | (exfalso; omega) | skip)) | ((with_reducible refine hK _ ?_); clear hK K) | (with_reducible refine and_split ?_ ?_) | ((with_reducible refine ct_id ?_); first | (refine callThen hval trivial ?_ ?_) | (refine callThen hJ trivial ?_ ?_)) | ((with_reducible refine ctd_id ?_); first | (refine callThenD hval trivial ?_ ?_) | (refine callThenD hJ trivial ?_ ?_)) | ((with_reducible refine sw_id ?_); simp (disch := first | decide | omega) only [↓pkS, pkW, pkA, undef, capsOf, ex, St.put, St.ev, kav, gdA, opI, rawI, vbin, srcOf, avsD, acsD, AV.toD, AC.toD, AV.nw, AC.nw, AC.one, Value.oneCell', fillA, D.one, D.ones, D.sz, D.szs, Nat.reduceAdd, Nat.reduceSub, Nat.reduceLeDiff, Nat.reduceEqDiff, reduceIte, pkN, li_acs, ls_acs, sl_acs, GRow.acs_eq, GRow.flat_eq, GRow.agg_eq, GRow.el, GVal.acs_eq, GVal.flat_eq, GVal.agg_eq, el_ints, el_strs, hk, hv]) | (first | (with_reducible rfl) | (with_reducible refine fnok_id ?_; kernel_rfl) | exact el_strs _ | exact el_ints _ | exact el_ln _ | exact el_tk _ _ | exact el_td _ _ _ | omega | (simp; done) | (simp; omega)) | ((with_reducible refine args_id ?_); simp [ArgsOk, ArgOk, argsD, argD, AC.toD, Value.oneCell', sl_flat, leaf_flat, li_flat, ls_flat, sl_agg, leaf_agg, li_agg, ls_agg, mo_t, mo_f, li_acs, ls_acs, sl_acs, GRow.acs_eq, GRow.flat_eq, GRow.agg_eq, GRow.el, GVal.acs_eq, GVal.flat_eq, GVal.agg_eq, el_ints, el_strs, hk, hv]; first | done | rfl))
  clear hJ hval
  refine awp_loopB (X := Nat) (fun q => [.d, .d, .d, .v (.c false [.raw (.string (fmtRows x.rows hd0 q))]), .d, .d, .d, .d, .d, .d, .d, .d, .d, .d, .d, .d, .d, .d, .d, .d, .d, .k, .k, .v (.c false [.raw (.int .i64 (q : Nat))]), .d, .d, .d, .d, .d, .d, .d, .d, .d, .d, .d, .d, .d, .d, .d, .d, .d, .d, .d, .d, .d, .d, .d, .d]) (fun q => []) (fun q bs => bs) (fun q => q ≤ x.rows.length) (fun q => x.rows.length - q) 0 (Nat.zero_le _) ?_ ?_
  · simp [StLe', FrLe, OwnLe, BoxLe, AV.fits, AC.fits, FB, mask, fmtRows, spB]
  rintro k hk0
  have hk1 : k ≤ x.rows.length := hk0
  simp only [FB, mask]
  by_cases hlt : k < x.rows.length
  · have hg := getq_mapF (f := GRow.toD) hlt
    have hcel := hs.cells _ (List.getElem_mem hlt)
    have hnum := hok.nums _ (List.getElem_mem hlt)
    have hrl1 := rowT_len hok (List.getElem_mem hlt)
    have htk0 : ∀ (l : List Int), ((l.take 0).map fmtI).map ls = [] := fun l => rfl
    repeat' (first | (with_reducible first | refine awp_seq ?_ | refine awp_block ?_ | refine awp_skip ?_ | refine awp_exit ?_ | refine awp_ret ?_ | refine athen ?_ | refine thenExit ?_ | refine thenRet ?_ | refine blockNormal ?_ | refine blockExit ?_ | refine blockRet ?_ | refine roundExit ?_ | refine roundRet ?_ | refine roundExitR ?_ | refine roundRetR ?_) | ((with_reducible refine blockPass ?_ ?_); rfl) | ((with_reducible refine awp_condT ?_ ?_); rfl) | ((with_reducible refine awp_condF ?_ ?_); rfl) | (with_reducible (refine awp_condS rfl ?_ ?_); all_goals (intro hb; have hb' := hb; (try simp only [pkC] at hb'); first | (exfalso; omega) | skip)) | ((with_reducible refine awp_reg ?_); intro K hK) | ((with_reducible refine sw_guardT ?_ ?_); rfl) | ((with_reducible refine sw_guardF ?_ ?_); (rfl; try simp only [St.put, undef, pkA, Nat.reduceAdd, Nat.reduceSub, Nat.reduceLeDiff, Nat.reduceEqDiff])) | (with_reducible (refine sw_guardS rfl ?_ ?_); all_goals (intro hb; have hb' := hb; (try simp only [pkC] at hb'); first | (exfalso; omega) | skip)) | ((with_reducible refine hK _ ?_); clear hK K) | (with_reducible refine and_split ?_ ?_) | ((with_reducible refine sw_id ?_); simp (disch := first | decide | omega) only [↓pkS, pkW, pkA, undef, capsOf, ex, St.put, St.ev, kav, gdA, opI, rawI, vbin, srcOf, avsD, acsD, AV.toD, AC.toD, AV.nw, AC.nw, AC.one, Value.oneCell', fillA, D.one, D.ones, D.sz, D.szs, Nat.reduceAdd, Nat.reduceSub, Nat.reduceLeDiff, Nat.reduceEqDiff, reduceIte, pkN, li_acs, ls_acs, sl_acs, GRow.acs_eq, GRow.flat_eq, GRow.agg_eq, GRow.el, GVal.acs_eq, GVal.flat_eq, GVal.agg_eq, el_ints, el_strs, hg]) | (first | (with_reducible rfl) | (with_reducible refine fnok_id ?_; kernel_rfl) | exact el_strs _ | exact el_ints _ | exact el_ln _ | exact el_tk _ _ | exact el_td _ _ _ | omega | (simp; done) | (simp; omega)) | ((with_reducible refine args_id ?_); simp [ArgsOk, ArgOk, argsD, argD, AC.toD, Value.oneCell', sl_flat, leaf_flat, li_flat, ls_flat, sl_agg, leaf_agg, li_agg, ls_agg, mo_t, mo_f, li_acs, ls_acs, sl_acs, GRow.acs_eq, GRow.flat_eq, GRow.agg_eq, GRow.el, GVal.acs_eq, GVal.flat_eq, GVal.agg_eq, el_ints, el_strs, hg]; first | done | rfl))
    refine awp_loopB (X := Nat × Nat) (fun q => [.d, .d, .d, .k, .d, .d, .v (.c false [.own 0 q.2]), .d, .d, .d, .d, .d, .d, .d, .d, .d, .d, .d, .d, .d, .d, .k, .k, .k, .d, .d, .d, .d, .d, .k, .k, .v (.c false [.raw (.int .i64 (q.1 : Nat))]), .d, .d, .d, .d, .d, .d, .d, .d, .d, .d, .d, .d, .d, .d, .d, .d]) (fun q => [⟨((x.rows[k].cells.take q.1).map fmtI).map ls, 9, 1, q.2, true⟩]) (fun q bs => bs) (fun q => q.1 ≤ x.rows[k].cells.length) (fun q => x.rows[k].cells.length - q.1) (0, 0) (Nat.zero_le _) ?_ ?_
    · simp [StLe', FrLe, OwnLe, BoxLe, AV.fits, AC.fits, FB, mask, htk0]
    rintro ⟨j, ver⟩ hj0
    have hj : j ≤ x.rows[k].cells.length := hj0
    simp only [FB, mask]
    by_cases hjl : j < x.rows[k].cells.length
    · have hgj := getq_mapF (f := li) hjl
      have hin : (((x.rows[k].cells.take j).map fmtI).map ls).length ≤ 1048576 := by simp only [List.length_map, List.length_take]; omega
      have hnj := hnum _ (List.getElem_mem hjl)
      have hfi := formatInt_impl_to (n := x.rows[k].cells[j]) (by omega) (by omega)
      have htk1 := take_mapI hjl
      repeat' (first | (with_reducible first | refine awp_seq ?_ | refine awp_block ?_ | refine awp_skip ?_ | refine awp_exit ?_ | refine awp_ret ?_ | refine athen ?_ | refine thenExit ?_ | refine thenRet ?_ | refine blockNormal ?_ | refine blockExit ?_ | refine blockRet ?_ | refine roundExit ?_ | refine roundRet ?_ | refine roundExitR ?_ | refine roundRetR ?_) | ((with_reducible refine blockPass ?_ ?_); rfl) | ((with_reducible refine awp_condT ?_ ?_); rfl) | ((with_reducible refine awp_condF ?_ ?_); rfl) | (with_reducible (refine awp_condS rfl ?_ ?_); all_goals (intro hb; have hb' := hb; (try simp only [pkC] at hb'); first | (exfalso; omega) | skip)) | ((with_reducible refine awp_reg ?_); intro K hK) | ((with_reducible refine sw_guardT ?_ ?_); rfl) | ((with_reducible refine sw_guardF ?_ ?_); (rfl; try simp only [St.put, undef, pkA, Nat.reduceAdd, Nat.reduceSub, Nat.reduceLeDiff, Nat.reduceEqDiff])) | (with_reducible (refine sw_guardS rfl ?_ ?_); all_goals (intro hb; have hb' := hb; (try simp only [pkC] at hb'); first | (exfalso; omega) | skip)) | ((with_reducible refine hK _ ?_); clear hK K) | (with_reducible refine and_split ?_ ?_) | ((with_reducible refine ct_id ?_); first | (refine callThen hfi trivial ?_ ?_)) | ((with_reducible refine ctd_id ?_); first | (refine callThenD hfi trivial ?_ ?_)) | ((with_reducible refine sw_id ?_); simp (disch := first | decide | omega) only [↓pkS, pkW, pkA, undef, capsOf, ex, St.put, St.ev, kav, gdA, opI, rawI, vbin, srcOf, avsD, acsD, AV.toD, AC.toD, AV.nw, AC.nw, AC.one, Value.oneCell', fillA, D.one, D.ones, D.sz, D.szs, Nat.reduceAdd, Nat.reduceSub, Nat.reduceLeDiff, Nat.reduceEqDiff, reduceIte, pkN, li_acs, ls_acs, sl_acs, GRow.acs_eq, GRow.flat_eq, GRow.agg_eq, GRow.el, GVal.acs_eq, GVal.flat_eq, GVal.agg_eq, el_ints, el_strs, hgj, hg, hin]) | (first | (with_reducible rfl) | (with_reducible refine fnok_id ?_; kernel_rfl) | exact el_strs _ | exact el_ints _ | exact el_ln _ | exact el_tk _ _ | exact el_td _ _ _ | omega | (simp; done) | (simp; omega)) | ((with_reducible refine args_id ?_); simp [ArgsOk, ArgOk, argsD, argD, AC.toD, Value.oneCell', sl_flat, leaf_flat, li_flat, ls_flat, sl_agg, leaf_agg, li_agg, ls_agg, mo_t, mo_f, li_acs, ls_acs, sl_acs, GRow.acs_eq, GRow.flat_eq, GRow.agg_eq, GRow.el, GVal.acs_eq, GVal.flat_eq, GVal.agg_eq, el_ints, el_strs, hgj, hg, hin]; first | done | rfl))
      refine roundB (j + 1, ver + 1) ?_ (show j + 1 ≤ x.rows[k].cells.length by omega) (show x.rows[k].cells.length - (j + 1) < x.rows[k].cells.length - j by omega)
      simp [StLe', FrLe, OwnLe, BoxLe, AV.fits, AC.fits, FB, mask, take_mapN hjl, ls]
    obtain rfl : j = x.rows[k].cells.length := by omega
    have hJr := join_impl_to (x.rows[k].cells.map fmtI) spB (Nat.le_trans hrl1 (by decide)) (by rw [List.length_map]; omega)
    have htk : x.rows[k].cells.take x.rows[k].cells.length = x.rows[k].cells := List.take_length
    have hl1 := fmtRows_len hok k
    rw [hd0e] at hl1
    have e5 : sepD.size = 2 := rfl
    obtain ⟨rt, ert⟩ : ∃ y, rowT x.rows[k] = y := ⟨_, rfl⟩
    have hrs : rt.size ≤ 88 := by rw [← ert]; unfold rowT; rw [joinB_size]; exact hrl1
    have hrows := hok.rows
    have hstep := fmtRows_step (hd := hd0) hlt
    rw [ert] at hstep
    have q1 := catf2 (a := fmtRows x.rows hd0 k) (b := sepD) (by omega)
    have r1 := catf3 (a := fmtRows x.rows hd0 k) (b := sepD) (by omega)
    have q2 := catf2 (a := fmtRows x.rows hd0 k ++ sepD) (b := rt) (by rw [ByteArray.size_append]; omega)
    have r2 := catf3 (a := fmtRows x.rows hd0 k ++ sepD) (b := rt) (by rw [ByteArray.size_append]; omega)
    have eR : joinB (x.rows[k].cells.map fmtI) spB = rt := ert
    rw [eR] at hJr
    unfold spB at hJr
    simp only [sepD] at q1 r1 q2 r2 hstep
    clear hl1 hrs
    repeat' (first | (with_reducible first | refine awp_seq ?_ | refine awp_block ?_ | refine awp_skip ?_ | refine awp_exit ?_ | refine awp_ret ?_ | refine athen ?_ | refine thenExit ?_ | refine thenRet ?_ | refine blockNormal ?_ | refine blockExit ?_ | refine blockRet ?_ | refine roundExit ?_ | refine roundRet ?_ | refine roundExitR ?_ | refine roundRetR ?_) | ((with_reducible refine blockPass ?_ ?_); rfl) | ((with_reducible refine awp_condT ?_ ?_); rfl) | ((with_reducible refine awp_condF ?_ ?_); rfl) | (with_reducible (refine awp_condS rfl ?_ ?_); all_goals (intro hb; have hb' := hb; (try simp only [pkC] at hb'); first | (exfalso; omega) | skip)) | ((with_reducible refine awp_reg ?_); intro K hK) | ((with_reducible refine sw_guardT ?_ ?_); rfl) | ((with_reducible refine sw_guardF ?_ ?_); (rfl; try simp only [St.put, undef, pkA, Nat.reduceAdd, Nat.reduceSub, Nat.reduceLeDiff, Nat.reduceEqDiff])) | (with_reducible (refine sw_guardS rfl ?_ ?_); all_goals (intro hb; have hb' := hb; (try simp only [pkC] at hb'); first | (exfalso; omega) | skip)) | ((with_reducible refine hK _ ?_); clear hK K) | (with_reducible refine and_split ?_ ?_) | ((with_reducible refine ct_id ?_); first | (refine callThen hJr trivial ?_ ?_)) | ((with_reducible refine ctd_id ?_); first | (refine callThenD hJr trivial ?_ ?_)) | ((with_reducible refine sw_id ?_); simp (disch := first | decide | omega) only [↓pkS, pkW, pkA, undef, capsOf, ex, St.put, St.ev, kav, gdA, opI, rawI, vbin, srcOf, avsD, acsD, AV.toD, AC.toD, AV.nw, AC.nw, AC.one, Value.oneCell', fillA, D.one, D.ones, D.sz, D.szs, Nat.reduceAdd, Nat.reduceSub, Nat.reduceLeDiff, Nat.reduceEqDiff, reduceIte, pkN, li_acs, ls_acs, sl_acs, GRow.acs_eq, GRow.flat_eq, GRow.agg_eq, GRow.el, GVal.acs_eq, GVal.flat_eq, GVal.agg_eq, el_ints, el_strs, q1, r1, q2, r2, htk, hg]) | (first | (with_reducible rfl) | (with_reducible refine fnok_id ?_; kernel_rfl) | exact el_strs _ | exact el_ints _ | exact el_ln _ | exact el_tk _ _ | exact el_td _ _ _ | omega | (simp; done) | (simp; omega)) | ((with_reducible refine args_id ?_); simp [ArgsOk, ArgOk, argsD, argD, AC.toD, Value.oneCell', sl_flat, leaf_flat, li_flat, ls_flat, sl_agg, leaf_agg, li_agg, ls_agg, mo_t, mo_f, li_acs, ls_acs, sl_acs, GRow.acs_eq, GRow.flat_eq, GRow.agg_eq, GRow.el, GVal.acs_eq, GVal.flat_eq, GVal.agg_eq, el_ints, el_strs, q1, r1, q2, r2, htk, hg]; first | done | rfl))
    refine roundB (k + 1) ?_ (show k + 1 ≤ x.rows.length by omega) (show x.rows.length - (k + 1) < x.rows.length - k by omega)
    simp [StLe', FrLe, OwnLe, BoxLe, AV.fits, AC.fits, FB, mask, hstep]
  obtain rfl : k = x.rows.length := by omega
  repeat' (first | (with_reducible first | refine awp_seq ?_ | refine awp_block ?_ | refine awp_skip ?_ | refine awp_exit ?_ | refine awp_ret ?_ | refine athen ?_ | refine thenExit ?_ | refine thenRet ?_ | refine blockNormal ?_ | refine blockExit ?_ | refine blockRet ?_ | refine roundExit ?_ | refine roundRet ?_ | refine roundExitR ?_ | refine roundRetR ?_) | ((with_reducible refine blockPass ?_ ?_); rfl) | ((with_reducible refine awp_condT ?_ ?_); rfl) | ((with_reducible refine awp_condF ?_ ?_); rfl) | (with_reducible (refine awp_condS rfl ?_ ?_); all_goals (intro hb; have hb' := hb; (try simp only [pkC] at hb'); first | (exfalso; omega) | skip)) | ((with_reducible refine awp_reg ?_); intro K hK) | ((with_reducible refine sw_guardT ?_ ?_); rfl) | ((with_reducible refine sw_guardF ?_ ?_); (rfl; try simp only [St.put, undef, pkA, Nat.reduceAdd, Nat.reduceSub, Nat.reduceLeDiff, Nat.reduceEqDiff])) | (with_reducible (refine sw_guardS rfl ?_ ?_); all_goals (intro hb; have hb' := hb; (try simp only [pkC] at hb'); first | (exfalso; omega) | skip)) | ((with_reducible refine hK _ ?_); clear hK K) | (with_reducible refine and_split ?_ ?_) | ((with_reducible refine sw_id ?_); simp (disch := first | decide | omega) only [↓pkS, pkW, pkA, undef, capsOf, ex, St.put, St.ev, kav, gdA, opI, rawI, vbin, srcOf, avsD, acsD, AV.toD, AC.toD, AV.nw, AC.nw, AC.one, Value.oneCell', fillA, D.one, D.ones, D.sz, D.szs, Nat.reduceAdd, Nat.reduceSub, Nat.reduceLeDiff, Nat.reduceEqDiff, reduceIte, pkN, li_acs, ls_acs, sl_acs, GRow.acs_eq, GRow.flat_eq, GRow.agg_eq, GRow.el, GVal.acs_eq, GVal.flat_eq, GVal.agg_eq, el_ints, el_strs]) | (first | (with_reducible rfl) | (with_reducible refine fnok_id ?_; kernel_rfl) | exact el_strs _ | exact el_ints _ | exact el_ln _ | exact el_tk _ _ | exact el_td _ _ _ | omega | (simp; done) | (simp; omega)) | ((with_reducible refine args_id ?_); simp [ArgsOk, ArgOk, argsD, argD, AC.toD, Value.oneCell', sl_flat, leaf_flat, li_flat, ls_flat, sl_agg, leaf_agg, li_agg, ls_agg, mo_t, mo_f, li_acs, ls_acs, sl_acs, GRow.acs_eq, GRow.flat_eq, GRow.agg_eq, GRow.el, GVal.acs_eq, GVal.flat_eq, GVal.agg_eq, el_ints, el_strs]; first | done | rfl))
  exact endRet ⟨_, rfl, by rw [hres]; rfl, trivial⟩
theorem formatData_spec_law (x : GVal) (hs : x.small) (hl : x.list.length ≤ 1048576) (fp : List Nat) (cs : List Value) (w : World) (h : R w x.toD fp cs) (ht : TabP w) : Calls Tryd.prog 19 #[.agg cs.toArray] w (RetB (.string (fmtData x)) w) :=
  of_raw (formatData_spec_to x hs hl) (vs := [.agg cs.toArray]) ⟨rd_of_agg x.agg_eq h, trivial⟩ ht
theorem formatData_impl_law (x : GVal) (hs : x.small) (hl : x.list.length ≤ 1048576) (fp : List Nat) (cs : List Value) (w : World) (h : R w x.toD fp cs) (ht : TabP w) : Calls Tryd.prog 21 #[.agg cs.toArray] w (RetB (.string (fmtData x)) w) :=
  of_raw (formatData_impl_to x hs hl) (vs := [.agg cs.toArray]) ⟨rd_of_agg x.agg_eq h, trivial⟩ ht
theorem small_of {x : GVal} (hw : x.toD.wt ≤ 1048576) (wx : x.toD.wf) : x.small ∧ x.list.length ≤ 1048576 := by
  have h2 := GVal.wt_eq x
  simp only [List.length_map] at h2
  have hc : D.wfs (x.cols.map ls) := by
    rw [GVal.toD_eq] at wx
    simp only [D.wf, D.wfs] at wx
    exact wx.2.2.2.2.2.1
  refine ⟨⟨by omega, fun s hs => ?_, by omega, fun r hr => ?_, fun r hr => ?_⟩, by omega⟩
  · have h3 : s.size ≤ maxLen := D.wfs_get hc (List.mem_map_of_mem (f := ls) hs)
    unfold maxLen at h3
    omega
  · have h1 := D.wts_mem (List.mem_map_of_mem (f := GRow.toD) hr)
    have h3 := GRow.wt_eq r
    simp only [List.length_map] at h3
    omega
  · have h1 := D.wts_mem (List.mem_map_of_mem (f := GRow.toD) hr)
    have h3 := GRow.wt_eq r
    simp only [List.length_map] at h3
    omega
end Go.Proofs.YtdjcflnemnknaaaDoor
