/-
  Texts joined: Set Sorted Dep Reach Cyc.
-/
import Derived.Test.YtnfamcepojpkjaaGreatJE
import Derived.Test.YtnfamcepojpkjaaGreatProg
import Derived.Maps.OwnOps
namespace Go.Proofs.YtnfamcepojpkjaaGreat
open Go.RowKit
set_option linter.unusedSimpArgs false
set_option linter.unusedVariables false
def ic_l1HasInt : IC := (.seq (.reg false [⟨(some 4), none, .mov (.k (.bool false))⟩]) (.seq (.seq (.reg false [⟨(some 5), none, .mov (.k (.int .i64 0))⟩]) (.block 0 (.loop (.seq (.seq (.reg false [⟨(some 6), none, .mov (.t 5)⟩, ⟨(some 7), none, .mov (.t 0)⟩, ⟨(some 8), none, .len false (.t 7)⟩, ⟨(some 9), none, .bin .lss (.t 6) (.t 8)⟩]) (.cond (.t 9) .skip (.exit 0))) (.seq (.block 1 (.seq (.reg false [⟨(some 12), none, .mov (.t 0)⟩, ⟨(some 13), none, .mov (.t 5)⟩, ⟨(some 14), none, .iad 1 (.t 12) (.t 13)⟩, ⟨(some 15), none, .load 1 false (.t 14)⟩, ⟨(some 16), none, .mov (.t 1)⟩, ⟨(some 17), none, .bin .eql (.t 15) (.t 16)⟩]) (.cond (.t 17) (.seq (.reg false [⟨(some 4), none, .mov (.k (.bool true))⟩]) .ret) .skip))) (.reg false [⟨(some 10), none, .mov (.t 5)⟩, ⟨(some 11), none, .bin .add (.t 10) (.k (.int .i64 1))⟩, ⟨(some 5), none, .mov (.t 11)⟩])))))) (.seq (.reg false [⟨(some 4), none, .mov (.k (.bool false))⟩]) .ret)))
theorem ic_l1HasInt_ok : compC Tryz.prog (Tryz.f32.body.getD .skip) = some ic_l1HasInt := by kernel_rfl
set_option maxHeartbeats 2000000 in
theorem l1HasInt_to (l : List Nat) (z : Int) (hn : l.length ≤ 4194304) : CallsTo Tryz.prog 32 [.sl (l.map ln), li z] (.c false [.raw (.bool (hasI l z))]) := by
  refine calls_one (fn := Tryz.f32) (t := 4) (by kernel_rfl) (by kernel_rfl) (by kernel_rfl) ic_l1HasInt_ok ?_
  unfold ic_l1HasInt
  change AWP _ _ _ (st0 18 _)
  simp only [undef, stS, st0, stN, D.av, D.avN, sl_agg, leaf_agg, li_agg, ls_agg, sl_acs, leaf_acs, li_acs, ls_acs, ln_acs, el_ln, getq_map, List.map_cons, List.map_nil, List.replicate, List.cons_append, List.nil_append, List.length_cons, List.length_nil, Nat.reduceAdd, Nat.reduceSub]
  repeat' (first | (with_reducible first | refine awp_seq ?_ | refine awp_block ?_ | refine awp_skip ?_ | refine awp_exit ?_ | refine awp_ret ?_ | refine athen ?_ | refine thenExit ?_ | refine thenRet ?_ | refine blockNormal ?_ | refine blockExit ?_ | refine blockRet ?_ | refine roundExit ?_ | refine roundRet ?_ | refine roundExitR ?_ | refine roundRetR ?_) | ((with_reducible refine blockPass ?_ ?_); rfl) | ((with_reducible refine awp_condT ?_ ?_); rfl) | ((with_reducible refine awp_condF ?_ ?_); rfl) | (with_reducible (refine awp_condS rfl ?_ ?_); all_goals (intro hb; have hb' := hb; (try simp only [pkC] at hb'); first | (exfalso; omega) | skip)) | ((with_reducible refine awp_reg ?_); intro K hK) | ((with_reducible refine sw_guardT ?_ ?_); rfl) | ((with_reducible refine sw_guardF ?_ ?_); rfl) | (with_reducible (refine sw_guardS rfl ?_ ?_); all_goals (intro hb; have hb' := hb; (try simp only [pkC] at hb'); first | (exfalso; omega) | skip)) | ((with_reducible refine hK _ ?_); clear hK K) | (with_reducible refine and_split ?_ ?_) | ((with_reducible refine sw_id ?_); simp (disch := first | decide | omega) only [↓pkS, pkW, pkA, undef, capsOf, ex, St.put, St.ev, kav, gdA, opI, rawI, vbin, srcOf, avsD, acsD, AV.toD, AC.toD, AV.nw, AC.nw, AC.one, Value.oneCell', fillA, D.one, D.ones, D.sz, D.szs, Nat.reduceAdd, Nat.reduceSub, Nat.reduceLeDiff, Nat.reduceEqDiff, reduceIte, pkN, ln_acs, el_ln, getq_map]) | (first | (with_reducible rfl) | (with_reducible refine fnok_id ?_; kernel_rfl) | exact el_strs _ | exact el_ints _ | exact el_ln _ | exact el_tk _ _ | exact el_td _ _ _ | omega | (simp; done) | (simp; omega)) | ((with_reducible refine args_id ?_); simp [ArgsOk, ArgOk, argsD, argD, AC.toD, Value.oneCell', sl_flat, leaf_flat, li_flat, ls_flat, sl_agg, leaf_agg, li_agg, ls_agg, mo_t, mo_f, ln_acs, el_ln, getq_map]; done))
  refine awp_loopB (X := Nat) (fun q => [.k, .k, .d, .d, .d, .v (.c false [.raw (.int .i64 (q : Nat))]), .d, .d, .d, .d, .d, .d, .d, .d, .d, .d, .d, .d]) (fun q => []) (fun q bs => []) (fun q => q ≤ l.length ∧ hasI (l.take q) z = false) (fun q => l.length - q) 0 ⟨Nat.zero_le _, by simp [hasI]⟩ ?_ ?_
  · simp [StLe', FrLe, OwnLe, BoxLe, AV.fits, AC.fits, FB, mask]
  rintro k ⟨hk, hf⟩
  simp only [FB, mask]
  by_cases hlt : k < l.length
  · cases he : (((l[k] : Nat) : Int) == z) with
    | true =>
      have ht := hasI_at hlt he
      repeat' (first | (with_reducible first | refine awp_seq ?_ | refine awp_block ?_ | refine awp_skip ?_ | refine awp_exit ?_ | refine awp_ret ?_ | refine athen ?_ | refine thenExit ?_ | refine thenRet ?_ | refine blockNormal ?_ | refine blockExit ?_ | refine blockRet ?_ | refine roundExit ?_ | refine roundRet ?_ | refine roundExitR ?_ | refine roundRetR ?_) | ((with_reducible refine blockPass ?_ ?_); rfl) | ((with_reducible refine awp_condT ?_ ?_); rfl) | ((with_reducible refine awp_condF ?_ ?_); rfl) | (with_reducible (refine awp_condS rfl ?_ ?_); all_goals (intro hb; have hb' := hb; (try simp only [pkC] at hb'); first | (exfalso; omega) | skip)) | ((with_reducible refine awp_reg ?_); intro K hK) | ((with_reducible refine sw_guardT ?_ ?_); rfl) | ((with_reducible refine sw_guardF ?_ ?_); rfl) | (with_reducible (refine sw_guardS rfl ?_ ?_); all_goals (intro hb; have hb' := hb; (try simp only [pkC] at hb'); first | (exfalso; omega) | skip)) | ((with_reducible refine hK _ ?_); clear hK K) | (with_reducible refine and_split ?_ ?_) | ((with_reducible refine sw_id ?_); simp (disch := first | decide | omega) only [↓pkS, pkW, pkA, undef, capsOf, ex, St.put, St.ev, kav, gdA, opI, rawI, vbin, srcOf, avsD, acsD, AV.toD, AC.toD, AV.nw, AC.nw, AC.one, Value.oneCell', fillA, D.one, D.ones, D.sz, D.szs, Nat.reduceAdd, Nat.reduceSub, Nat.reduceLeDiff, Nat.reduceEqDiff, reduceIte, pkN, ln_acs, el_ln, getq_map, he]) | (first | (with_reducible rfl) | (with_reducible refine fnok_id ?_; kernel_rfl) | exact el_strs _ | exact el_ints _ | exact el_ln _ | exact el_tk _ _ | exact el_td _ _ _ | omega | (simp; done) | (simp; omega)) | ((with_reducible refine args_id ?_); simp [ArgsOk, ArgOk, argsD, argD, AC.toD, Value.oneCell', sl_flat, leaf_flat, li_flat, ls_flat, sl_agg, leaf_agg, li_agg, ls_agg, mo_t, mo_f, ln_acs, el_ln, getq_map, he]; done))
      exact endRet ⟨_, rfl, by rw [ht]; rfl, trivial⟩
    | false =>
      have ht := hasI_take l z hlt
      rw [hf, he] at ht
      repeat' (first | (with_reducible first | refine awp_seq ?_ | refine awp_block ?_ | refine awp_skip ?_ | refine awp_exit ?_ | refine awp_ret ?_ | refine athen ?_ | refine thenExit ?_ | refine thenRet ?_ | refine blockNormal ?_ | refine blockExit ?_ | refine blockRet ?_ | refine roundExit ?_ | refine roundRet ?_ | refine roundExitR ?_ | refine roundRetR ?_) | ((with_reducible refine blockPass ?_ ?_); rfl) | ((with_reducible refine awp_condT ?_ ?_); rfl) | ((with_reducible refine awp_condF ?_ ?_); rfl) | (with_reducible (refine awp_condS rfl ?_ ?_); all_goals (intro hb; have hb' := hb; (try simp only [pkC] at hb'); first | (exfalso; omega) | skip)) | ((with_reducible refine awp_reg ?_); intro K hK) | ((with_reducible refine sw_guardT ?_ ?_); rfl) | ((with_reducible refine sw_guardF ?_ ?_); rfl) | (with_reducible (refine sw_guardS rfl ?_ ?_); all_goals (intro hb; have hb' := hb; (try simp only [pkC] at hb'); first | (exfalso; omega) | skip)) | ((with_reducible refine hK _ ?_); clear hK K) | (with_reducible refine and_split ?_ ?_) | ((with_reducible refine sw_id ?_); simp (disch := first | decide | omega) only [↓pkS, pkW, pkA, undef, capsOf, ex, St.put, St.ev, kav, gdA, opI, rawI, vbin, srcOf, avsD, acsD, AV.toD, AC.toD, AV.nw, AC.nw, AC.one, Value.oneCell', fillA, D.one, D.ones, D.sz, D.szs, Nat.reduceAdd, Nat.reduceSub, Nat.reduceLeDiff, Nat.reduceEqDiff, reduceIte, pkN, ln_acs, el_ln, getq_map, he]) | (first | (with_reducible rfl) | (with_reducible refine fnok_id ?_; kernel_rfl) | exact el_strs _ | exact el_ints _ | exact el_ln _ | exact el_tk _ _ | exact el_td _ _ _ | omega | (simp; done) | (simp; omega)) | ((with_reducible refine args_id ?_); simp [ArgsOk, ArgOk, argsD, argD, AC.toD, Value.oneCell', sl_flat, leaf_flat, li_flat, ls_flat, sl_agg, leaf_agg, li_agg, ls_agg, mo_t, mo_f, ln_acs, el_ln, getq_map, he]; done))
      refine roundB (k + 1) ?_ ⟨by omega, ht⟩ (show l.length - (k + 1) < l.length - k by omega)
      simp [StLe', FrLe, OwnLe, BoxLe, AV.fits, AC.fits, FB, mask]
  · obtain rfl : k = l.length := by omega
    rw [List.take_length] at hf
    repeat' (first | (with_reducible first | refine awp_seq ?_ | refine awp_block ?_ | refine awp_skip ?_ | refine awp_exit ?_ | refine awp_ret ?_ | refine athen ?_ | refine thenExit ?_ | refine thenRet ?_ | refine blockNormal ?_ | refine blockExit ?_ | refine blockRet ?_ | refine roundExit ?_ | refine roundRet ?_ | refine roundExitR ?_ | refine roundRetR ?_) | ((with_reducible refine blockPass ?_ ?_); rfl) | ((with_reducible refine awp_condT ?_ ?_); rfl) | ((with_reducible refine awp_condF ?_ ?_); rfl) | (with_reducible (refine awp_condS rfl ?_ ?_); all_goals (intro hb; have hb' := hb; (try simp only [pkC] at hb'); first | (exfalso; omega) | skip)) | ((with_reducible refine awp_reg ?_); intro K hK) | ((with_reducible refine sw_guardT ?_ ?_); rfl) | ((with_reducible refine sw_guardF ?_ ?_); rfl) | (with_reducible (refine sw_guardS rfl ?_ ?_); all_goals (intro hb; have hb' := hb; (try simp only [pkC] at hb'); first | (exfalso; omega) | skip)) | ((with_reducible refine hK _ ?_); clear hK K) | (with_reducible refine and_split ?_ ?_) | ((with_reducible refine sw_id ?_); simp (disch := first | decide | omega) only [↓pkS, pkW, pkA, undef, capsOf, ex, St.put, St.ev, kav, gdA, opI, rawI, vbin, srcOf, avsD, acsD, AV.toD, AC.toD, AV.nw, AC.nw, AC.one, Value.oneCell', fillA, D.one, D.ones, D.sz, D.szs, Nat.reduceAdd, Nat.reduceSub, Nat.reduceLeDiff, Nat.reduceEqDiff, reduceIte, pkN, ln_acs, el_ln, getq_map]) | (first | (with_reducible rfl) | (with_reducible refine fnok_id ?_; kernel_rfl) | exact el_strs _ | exact el_ints _ | exact el_ln _ | exact el_tk _ _ | exact el_td _ _ _ | omega | (simp; done) | (simp; omega)) | ((with_reducible refine args_id ?_); simp [ArgsOk, ArgOk, argsD, argD, AC.toD, Value.oneCell', sl_flat, leaf_flat, li_flat, ls_flat, sl_agg, leaf_agg, li_agg, ls_agg, mo_t, mo_f, ln_acs, el_ln, getq_map]; done))
    exact endRet ⟨_, rfl, by rw [hf]; rfl, trivial⟩
def ic_hasInt : IC := (.seq (.reg false [⟨(some 4), none, .mov (.k (.bool false))⟩]) (.seq (.seq (.reg false [⟨(some 7), none, .mov (.t 0)⟩, ⟨(some 8), none, .len false (.t 7)⟩, ⟨(some 9), none, .mov (.k (.int .i64 0))⟩]) (.block 0 (.loop (.seq (.reg false [⟨(some 10), none, .bin .lss (.t 9) (.t 8)⟩]) (.seq (.cond (.t 10) .skip (.exit 0)) (.seq (.block 1 (.seq (.reg false [⟨(some 11), none, .iad 1 (.t 7) (.t 9)⟩, ⟨(some 12), none, .load 1 false (.t 11)⟩, ⟨(some 6), none, .mov (.t 12)⟩]) (.seq (.reg false [⟨(some 13), none, .mov (.t 6)⟩, ⟨(some 14), none, .mov (.t 1)⟩, ⟨(some 15), none, .bin .eql (.t 13) (.t 14)⟩]) (.cond (.t 15) (.seq (.reg false [⟨(some 4), none, .mov (.k (.bool true))⟩]) .ret) .skip)))) (.reg false [⟨(some 16), none, .bin .add (.t 9) (.k (.int .i64 1))⟩, ⟨(some 9), none, .mov (.t 16)⟩]))))))) (.seq (.reg false [⟨(some 4), none, .mov (.k (.bool false))⟩]) .ret)))
theorem ic_hasInt_ok : compC Tryz.prog (Tryz.f18.body.getD .skip) = some ic_hasInt := by kernel_rfl
set_option maxHeartbeats 2000000 in
theorem hasInt_to (l : List Nat) (z : Int) (hn : l.length ≤ 4194304) : CallsTo Tryz.prog 18 [.sl (l.map ln), li z] (.c false [.raw (.bool (hasI l z))]) := by
  refine calls_one (fn := Tryz.f18) (t := 4) (by kernel_rfl) (by kernel_rfl) (by kernel_rfl) ic_hasInt_ok ?_
  unfold ic_hasInt
  change AWP _ _ _ (st0 17 _)
  simp only [undef, stS, st0, stN, D.av, D.avN, sl_agg, leaf_agg, li_agg, ls_agg, sl_acs, leaf_acs, li_acs, ls_acs, ln_acs, el_ln, getq_map, List.map_cons, List.map_nil, List.replicate, List.cons_append, List.nil_append, List.length_cons, List.length_nil, Nat.reduceAdd, Nat.reduceSub]
  repeat' (first | (with_reducible first | refine awp_seq ?_ | refine awp_block ?_ | refine awp_skip ?_ | refine awp_exit ?_ | refine awp_ret ?_ | refine athen ?_ | refine thenExit ?_ | refine thenRet ?_ | refine blockNormal ?_ | refine blockExit ?_ | refine blockRet ?_ | refine roundExit ?_ | refine roundRet ?_ | refine roundExitR ?_ | refine roundRetR ?_) | ((with_reducible refine blockPass ?_ ?_); rfl) | ((with_reducible refine awp_condT ?_ ?_); rfl) | ((with_reducible refine awp_condF ?_ ?_); rfl) | (with_reducible (refine awp_condS rfl ?_ ?_); all_goals (intro hb; have hb' := hb; (try simp only [pkC] at hb'); first | (exfalso; omega) | skip)) | ((with_reducible refine awp_reg ?_); intro K hK) | ((with_reducible refine sw_guardT ?_ ?_); rfl) | ((with_reducible refine sw_guardF ?_ ?_); rfl) | (with_reducible (refine sw_guardS rfl ?_ ?_); all_goals (intro hb; have hb' := hb; (try simp only [pkC] at hb'); first | (exfalso; omega) | skip)) | ((with_reducible refine hK _ ?_); clear hK K) | (with_reducible refine and_split ?_ ?_) | ((with_reducible refine sw_id ?_); simp (disch := first | decide | omega) only [↓pkS, pkW, pkA, undef, capsOf, ex, St.put, St.ev, kav, gdA, opI, rawI, vbin, srcOf, avsD, acsD, AV.toD, AC.toD, AV.nw, AC.nw, AC.one, Value.oneCell', fillA, D.one, D.ones, D.sz, D.szs, Nat.reduceAdd, Nat.reduceSub, Nat.reduceLeDiff, Nat.reduceEqDiff, reduceIte, pkN, ln_acs, el_ln, getq_map]) | (first | (with_reducible rfl) | (with_reducible refine fnok_id ?_; kernel_rfl) | exact el_strs _ | exact el_ints _ | exact el_ln _ | exact el_tk _ _ | exact el_td _ _ _ | omega | (simp; done) | (simp; omega)) | ((with_reducible refine args_id ?_); simp [ArgsOk, ArgOk, argsD, argD, AC.toD, Value.oneCell', sl_flat, leaf_flat, li_flat, ls_flat, sl_agg, leaf_agg, li_agg, ls_agg, mo_t, mo_f, ln_acs, el_ln, getq_map]; done))
  refine awp_loopB (X := Nat) (fun q => [.d, .k, .d, .d, .d, .d, .d, .k, .k, .v (.c false [.raw (.int .i64 (q : Nat))]), .d, .d, .d, .d, .d, .d, .d]) (fun q => []) (fun q bs => []) (fun q => q ≤ l.length ∧ hasI (l.take q) z = false) (fun q => l.length - q) 0 ⟨Nat.zero_le _, by simp [hasI]⟩ ?_ ?_
  · simp [StLe', FrLe, OwnLe, BoxLe, AV.fits, AC.fits, FB, mask]
  rintro k ⟨hk, hf⟩
  simp only [FB, mask]
  by_cases hlt : k < l.length
  · cases he : (((l[k] : Nat) : Int) == z) with
    | true =>
      have ht := hasI_at hlt he
      repeat' (first | (with_reducible first | refine awp_seq ?_ | refine awp_block ?_ | refine awp_skip ?_ | refine awp_exit ?_ | refine awp_ret ?_ | refine athen ?_ | refine thenExit ?_ | refine thenRet ?_ | refine blockNormal ?_ | refine blockExit ?_ | refine blockRet ?_ | refine roundExit ?_ | refine roundRet ?_ | refine roundExitR ?_ | refine roundRetR ?_) | ((with_reducible refine blockPass ?_ ?_); rfl) | ((with_reducible refine awp_condT ?_ ?_); rfl) | ((with_reducible refine awp_condF ?_ ?_); rfl) | (with_reducible (refine awp_condS rfl ?_ ?_); all_goals (intro hb; have hb' := hb; (try simp only [pkC] at hb'); first | (exfalso; omega) | skip)) | ((with_reducible refine awp_reg ?_); intro K hK) | ((with_reducible refine sw_guardT ?_ ?_); rfl) | ((with_reducible refine sw_guardF ?_ ?_); rfl) | (with_reducible (refine sw_guardS rfl ?_ ?_); all_goals (intro hb; have hb' := hb; (try simp only [pkC] at hb'); first | (exfalso; omega) | skip)) | ((with_reducible refine hK _ ?_); clear hK K) | (with_reducible refine and_split ?_ ?_) | ((with_reducible refine sw_id ?_); simp (disch := first | decide | omega) only [↓pkS, pkW, pkA, undef, capsOf, ex, St.put, St.ev, kav, gdA, opI, rawI, vbin, srcOf, avsD, acsD, AV.toD, AC.toD, AV.nw, AC.nw, AC.one, Value.oneCell', fillA, D.one, D.ones, D.sz, D.szs, Nat.reduceAdd, Nat.reduceSub, Nat.reduceLeDiff, Nat.reduceEqDiff, reduceIte, pkN, ln_acs, el_ln, getq_map, he]) | (first | (with_reducible rfl) | (with_reducible refine fnok_id ?_; kernel_rfl) | exact el_strs _ | exact el_ints _ | exact el_ln _ | exact el_tk _ _ | exact el_td _ _ _ | omega | (simp; done) | (simp; omega)) | ((with_reducible refine args_id ?_); simp [ArgsOk, ArgOk, argsD, argD, AC.toD, Value.oneCell', sl_flat, leaf_flat, li_flat, ls_flat, sl_agg, leaf_agg, li_agg, ls_agg, mo_t, mo_f, ln_acs, el_ln, getq_map, he]; done))
      exact endRet ⟨_, rfl, by rw [ht]; rfl, trivial⟩
    | false =>
      have ht := hasI_take l z hlt
      rw [hf, he] at ht
      repeat' (first | (with_reducible first | refine awp_seq ?_ | refine awp_block ?_ | refine awp_skip ?_ | refine awp_exit ?_ | refine awp_ret ?_ | refine athen ?_ | refine thenExit ?_ | refine thenRet ?_ | refine blockNormal ?_ | refine blockExit ?_ | refine blockRet ?_ | refine roundExit ?_ | refine roundRet ?_ | refine roundExitR ?_ | refine roundRetR ?_) | ((with_reducible refine blockPass ?_ ?_); rfl) | ((with_reducible refine awp_condT ?_ ?_); rfl) | ((with_reducible refine awp_condF ?_ ?_); rfl) | (with_reducible (refine awp_condS rfl ?_ ?_); all_goals (intro hb; have hb' := hb; (try simp only [pkC] at hb'); first | (exfalso; omega) | skip)) | ((with_reducible refine awp_reg ?_); intro K hK) | ((with_reducible refine sw_guardT ?_ ?_); rfl) | ((with_reducible refine sw_guardF ?_ ?_); rfl) | (with_reducible (refine sw_guardS rfl ?_ ?_); all_goals (intro hb; have hb' := hb; (try simp only [pkC] at hb'); first | (exfalso; omega) | skip)) | ((with_reducible refine hK _ ?_); clear hK K) | (with_reducible refine and_split ?_ ?_) | ((with_reducible refine sw_id ?_); simp (disch := first | decide | omega) only [↓pkS, pkW, pkA, undef, capsOf, ex, St.put, St.ev, kav, gdA, opI, rawI, vbin, srcOf, avsD, acsD, AV.toD, AC.toD, AV.nw, AC.nw, AC.one, Value.oneCell', fillA, D.one, D.ones, D.sz, D.szs, Nat.reduceAdd, Nat.reduceSub, Nat.reduceLeDiff, Nat.reduceEqDiff, reduceIte, pkN, ln_acs, el_ln, getq_map, he]) | (first | (with_reducible rfl) | (with_reducible refine fnok_id ?_; kernel_rfl) | exact el_strs _ | exact el_ints _ | exact el_ln _ | exact el_tk _ _ | exact el_td _ _ _ | omega | (simp; done) | (simp; omega)) | ((with_reducible refine args_id ?_); simp [ArgsOk, ArgOk, argsD, argD, AC.toD, Value.oneCell', sl_flat, leaf_flat, li_flat, ls_flat, sl_agg, leaf_agg, li_agg, ls_agg, mo_t, mo_f, ln_acs, el_ln, getq_map, he]; done))
      refine roundB (k + 1) ?_ ⟨by omega, ht⟩ (show l.length - (k + 1) < l.length - k by omega)
      simp [StLe', FrLe, OwnLe, BoxLe, AV.fits, AC.fits, FB, mask]
  · obtain rfl : k = l.length := by omega
    rw [List.take_length] at hf
    repeat' (first | (with_reducible first | refine awp_seq ?_ | refine awp_block ?_ | refine awp_skip ?_ | refine awp_exit ?_ | refine awp_ret ?_ | refine athen ?_ | refine thenExit ?_ | refine thenRet ?_ | refine blockNormal ?_ | refine blockExit ?_ | refine blockRet ?_ | refine roundExit ?_ | refine roundRet ?_ | refine roundExitR ?_ | refine roundRetR ?_) | ((with_reducible refine blockPass ?_ ?_); rfl) | ((with_reducible refine awp_condT ?_ ?_); rfl) | ((with_reducible refine awp_condF ?_ ?_); rfl) | (with_reducible (refine awp_condS rfl ?_ ?_); all_goals (intro hb; have hb' := hb; (try simp only [pkC] at hb'); first | (exfalso; omega) | skip)) | ((with_reducible refine awp_reg ?_); intro K hK) | ((with_reducible refine sw_guardT ?_ ?_); rfl) | ((with_reducible refine sw_guardF ?_ ?_); rfl) | (with_reducible (refine sw_guardS rfl ?_ ?_); all_goals (intro hb; have hb' := hb; (try simp only [pkC] at hb'); first | (exfalso; omega) | skip)) | ((with_reducible refine hK _ ?_); clear hK K) | (with_reducible refine and_split ?_ ?_) | ((with_reducible refine sw_id ?_); simp (disch := first | decide | omega) only [↓pkS, pkW, pkA, undef, capsOf, ex, St.put, St.ev, kav, gdA, opI, rawI, vbin, srcOf, avsD, acsD, AV.toD, AC.toD, AV.nw, AC.nw, AC.one, Value.oneCell', fillA, D.one, D.ones, D.sz, D.szs, Nat.reduceAdd, Nat.reduceSub, Nat.reduceLeDiff, Nat.reduceEqDiff, reduceIte, pkN, ln_acs, el_ln, getq_map]) | (first | (with_reducible rfl) | (with_reducible refine fnok_id ?_; kernel_rfl) | exact el_strs _ | exact el_ints _ | exact el_ln _ | exact el_tk _ _ | exact el_td _ _ _ | omega | (simp; done) | (simp; omega)) | ((with_reducible refine args_id ?_); simp [ArgsOk, ArgOk, argsD, argD, AC.toD, Value.oneCell', sl_flat, leaf_flat, li_flat, ls_flat, sl_agg, leaf_agg, li_agg, ls_agg, mo_t, mo_f, ln_acs, el_ln, getq_map]; done))
    exact endRet ⟨_, rfl, by rw [hf]; rfl, trivial⟩
def ic_l23Set : IC := (.seq (.reg false [⟨(some 2), none, .mov (.k (.slice none 0 0))⟩]) (.seq (.reg false [⟨(some 7), none, .brow true 3 1 0 false []⟩, ⟨(some 3), none, .mov (.t 7)⟩]) (.seq (.seq (.reg false [⟨(some 4), none, .mov (.k (.int .i64 0))⟩]) (.block 0 (.loop (.seq (.seq (.reg false [⟨(some 8), none, .mov (.t 4)⟩, ⟨(some 9), none, .mov (.t 0)⟩, ⟨(some 10), none, .len false (.t 9)⟩, ⟨(some 11), none, .bin .lss (.t 8) (.t 10)⟩]) (.cond (.t 11) .skip (.exit 0))) (.seq (.block 1 (.seq (.seq (.reg false [⟨(some 14), none, .mov (.t 3)⟩, ⟨(some 15), none, .mov (.t 0)⟩, ⟨(some 16), none, .mov (.t 4)⟩, ⟨(some 17), none, .iad 1 (.t 15) (.t 16)⟩, ⟨(some 18), none, .load 1 false (.t 17)⟩, ⟨(some 19), none, .call 32 [(.t 14), (.t 18)]⟩]) (.cond (.t 19) (.exit 1) .skip)) (.seq (.reg false [⟨(some 5), none, .mov (.k (.int .i64 0))⟩]) (.seq (.block 2 (.loop (.seq (.seq (.reg true [⟨(some 20), none, .mov (.t 5)⟩, ⟨(some 21), none, .mov (.t 3)⟩, ⟨(some 22), none, .len false (.t 21)⟩, ⟨(some 23), none, .bin .lss (.t 20) (.t 22)⟩, ⟨(some 24), none, .mov (.t 23)⟩, ⟨(some 25), (some (24, true)), .mov (.t 3)⟩, ⟨(some 26), (some (24, true)), .mov (.t 5)⟩, ⟨(some 27), (some (24, true)), .iad 1 (.t 25) (.t 26)⟩, ⟨(some 28), (some (24, true)), .load 1 false (.t 27)⟩, ⟨(some 29), (some (24, true)), .mov (.t 0)⟩, ⟨(some 30), (some (24, true)), .mov (.t 4)⟩, ⟨(some 31), (some (24, true)), .iad 1 (.t 29) (.t 30)⟩, ⟨(some 32), (some (24, true)), .load 1 false (.t 31)⟩, ⟨(some 33), (some (24, true)), .bin .lss (.t 28) (.t 32)⟩, ⟨(some 34), none, .pick (.t 24) (.t 33) (.k (.bool false))⟩]) (.cond (.t 34) .skip (.exit 2))) (.block 3 (.reg false [⟨(some 35), none, .mov (.t 5)⟩, ⟨(some 36), none, .bin .add (.t 35) (.k (.int .i64 1))⟩, ⟨(some 5), none, .mov (.t 36)⟩]))))) (.seq (.reg false [⟨(some 37), none, .brow true 3 1 0 false []⟩, ⟨(some 38), none, .mov (.t 3)⟩, ⟨(some 39), none, .mov (.t 5)⟩, ⟨(some 40), none, .lsl 1 (.t 38) none (some (.t 39))⟩, ⟨(some 41), none, .app 3 1 (.t 37) (.t 40)⟩, ⟨(some 6), none, .mov (.t 41)⟩]) (.seq (.reg false [⟨(some 42), none, .mov (.t 6)⟩, ⟨(some 43), none, .mov (.t 0)⟩, ⟨(some 44), none, .mov (.t 4)⟩, ⟨(some 45), none, .iad 1 (.t 43) (.t 44)⟩, ⟨(some 46), none, .load 1 false (.t 45)⟩, ⟨(some 47), none, .brow false 3 1 1 false [(.t 46)]⟩, ⟨(some 48), none, .app 3 1 (.t 42) (.t 47)⟩, ⟨(some 6), none, .mov (.t 48)⟩]) (.reg false [⟨(some 49), none, .mov (.t 6)⟩, ⟨(some 50), none, .mov (.t 3)⟩, ⟨(some 51), none, .mov (.t 5)⟩, ⟨(some 52), none, .lsl 1 (.t 50) (some (.t 51)) none⟩, ⟨(some 53), none, .app 3 1 (.t 49) (.t 52)⟩, ⟨(some 3), none, .mov (.t 53)⟩]))))))) (.reg false [⟨(some 12), none, .mov (.t 4)⟩, ⟨(some 13), none, .bin .add (.t 12) (.k (.int .i64 1))⟩, ⟨(some 4), none, .mov (.t 13)⟩])))))) (.seq (.reg false [⟨(some 54), none, .mov (.t 3)⟩, ⟨(some 2), none, .mov (.t 54)⟩]) .ret))))
theorem ic_l23Set_ok : compC Tryz.prog (Tryz.f49.body.getD .skip) = some ic_l23Set := by kernel_rfl
set_option maxHeartbeats 8000000 in
theorem l23Set_to (n : Nat) (l : List Nat) (hb : ∀ x ∈ l, x < n) (hn : n ≤ 1048576) (hl : l.length ≤ 2199023255552) : CallsOwn Tryz.prog 49 [.sl (l.map ln)] ((setL n l).map ln) 3 1 := by
  refine calls_own (fn := Tryz.f49) (t := 2) (by kernel_rfl) (by kernel_rfl) (by kernel_rfl) ic_l23Set_ok ?_
  unfold ic_l23Set
  change AWP _ _ _ (st0 55 _)
  simp only [undef, stS, st0, stN, D.av, D.avN, sl_agg, leaf_agg, li_agg, ls_agg, sl_acs, leaf_acs, li_acs, ls_acs, ln_acs, el_ln, getq_map, List.map_cons, List.map_nil, List.replicate, List.cons_append, List.nil_append, List.length_cons, List.length_nil, Nat.reduceAdd, Nat.reduceSub]
  repeat' (first | (with_reducible first | refine awp_seq ?_ | refine awp_block ?_ | refine awp_skip ?_ | refine awp_exit ?_ | refine awp_ret ?_ | refine athen ?_ | refine thenExit ?_ | refine thenRet ?_ | refine blockNormal ?_ | refine blockExit ?_ | refine blockRet ?_ | refine roundExit ?_ | refine roundRet ?_ | refine roundExitR ?_ | refine roundRetR ?_) | ((with_reducible refine blockPass ?_ ?_); rfl) | ((with_reducible refine awp_condT ?_ ?_); rfl) | ((with_reducible refine awp_condF ?_ ?_); rfl) | (with_reducible (refine awp_condS rfl ?_ ?_); all_goals (intro hb; have hb' := hb; (try simp only [pkC] at hb'); first | (exfalso; omega) | skip)) | ((with_reducible refine awp_reg ?_); intro K hK) | ((first | ((with_reducible refine awp_regD false ?_ ?_); rfl) | ((with_reducible refine awp_regD true ?_ ?_); rfl)); intro K hK) | ((with_reducible refine sw_guardT ?_ ?_); rfl) | ((with_reducible refine sw_guardF ?_ ?_); rfl) | (with_reducible (refine sw_guardS rfl ?_ ?_); all_goals (intro hb; have hb' := hb; (try simp only [pkC] at hb'); first | (exfalso; omega) | skip)) | ((with_reducible refine sd_guardT ?_ ?_); rfl) | ((with_reducible refine sd_guardF ?_ ?_); rfl) | (with_reducible (refine sd_guardS rfl ?_ ?_); all_goals (intro hb; have hb' := hb; (try simp only [pkC] at hb'); first | (exfalso; omega) | skip)) | ((with_reducible refine hK _ ?_); clear hK K) | (with_reducible refine and_split ?_ ?_) | ((with_reducible refine sw_id ?_); simp (disch := first | decide | omega) only [↓pkS, pkW, pkA, undef, capsOf, ex, St.put, St.ev, kav, gdA, opI, rawI, vbin, srcOf, avsD, acsD, AV.toD, AC.toD, AV.nw, AC.nw, AC.one, Value.oneCell', fillA, D.one, D.ones, D.sz, D.szs, Nat.reduceAdd, Nat.reduceSub, Nat.reduceLeDiff, Nat.reduceEqDiff, reduceIte, pkN, ln_acs, el_ln, getq_map]) | ((with_reducible refine sd_id ?_); simp (disch := first | decide | omega) only [↓pkR, pkD, pkA, undef, capsOf, ex, St.put, St.ev, kav, gdA, opI, rawI, vbin, srcOf, avsD, acsD, AV.toD, AC.toD, AV.nw, AC.nw, AC.one, Value.oneCell', fillA, D.one, D.ones, D.sz, D.szs, Nat.reduceAdd, Nat.reduceSub, Nat.reduceLeDiff, Nat.reduceEqDiff, reduceIte, pkN, ln_acs, el_ln, getq_map]) | (first | (with_reducible rfl) | (with_reducible refine fnok_id ?_; kernel_rfl) | exact el_strs _ | exact el_ints _ | exact el_ln _ | exact el_tk _ _ | exact el_td _ _ _ | omega | (simp; done) | (simp; omega)) | ((with_reducible refine args_id ?_); simp [ArgsOk, ArgOk, argsD, argD, AC.toD, Value.oneCell', sl_flat, leaf_flat, li_flat, ls_flat, sl_agg, leaf_agg, li_agg, ls_agg, mo_t, mo_f, ln_acs, el_ln, getq_map]; done))
  refine awp_loopR (X := Nat × Nat) (fun q => [.k, .d, .d, .v (.c false [.own 0 q.2]), .v (.c false [.raw (.int .i64 (q.1 : Nat))]), .d, .d, .d, .d, .d, .d, .d, .d, .d, .d, .d, .d, .d, .d, .d, .d, .d, .d, .d, .d, .d, .d, .d, .d, .d, .d, .d, .d, .d, .d, .d, .d, .d, .d, .d, .d, .d, .d, .d, .d, .d, .d, .d, .d, .d, .d, .d, .d, .d, .d]) (fun q => [⟨(setL n (l.take q.1)).map ln, 3, 1, q.2, true⟩]) (fun q bs => []) (fun q => q.1 ≤ l.length) (fun q => l.length - q.1) (0, 0) [0] (Nat.zero_le _) ?_ ?_
  · simp [StLeR, FrLeR, OwnLeR, BoxLeR, AV.ren, AC.ren, AV.fits, AC.fits, FB, mask, setL_nil]
  rintro ⟨i, v⟩ hi
  have hi' : i ≤ l.length := hi
  clear hi
  simp only [FB, mask]
  by_cases hlt : i < l.length
  · have hx := hb l[i] (List.getElem_mem hlt)
    have hsl := setN_len n (fun k => (l.take i).contains k)
    obtain ⟨s, hs⟩ : ∃ s, setL n (l.take i) = s := ⟨_, rfl⟩
    have hss : (setN n fun k => (l.take i).contains k) = s := hs
    rw [hss] at hsl
    rw [hs]
    cases hh : hasI s ((l[i] : Nat) : Int) with
    | true =>
      have hnx : setL n (l.take (i + 1)) = s := by rw [setL_has hlt hx (by rw [hs, ← hasI_nat]; exact hh), hs]
      repeat' (first | (with_reducible first | refine awp_seq ?_ | refine awp_block ?_ | refine awp_skip ?_ | refine awp_exit ?_ | refine awp_ret ?_ | refine athen ?_ | refine thenExit ?_ | refine thenRet ?_ | refine blockNormal ?_ | refine blockExit ?_ | refine blockRet ?_ | refine roundExit ?_ | refine roundRet ?_ | refine roundExitR ?_ | refine roundRetR ?_) | ((with_reducible refine blockPass ?_ ?_); rfl) | ((with_reducible refine awp_condT ?_ ?_); rfl) | ((with_reducible refine awp_condF ?_ ?_); rfl) | (with_reducible (refine awp_condS rfl ?_ ?_); all_goals (intro hb; have hb' := hb; (try simp only [pkC] at hb'); first | (exfalso; omega) | skip)) | ((with_reducible refine awp_reg ?_); intro K hK) | ((first | ((with_reducible refine awp_regD false ?_ ?_); rfl) | ((with_reducible refine awp_regD true ?_ ?_); rfl)); intro K hK) | ((with_reducible refine sw_guardT ?_ ?_); rfl) | ((with_reducible refine sw_guardF ?_ ?_); rfl) | (with_reducible (refine sw_guardS rfl ?_ ?_); all_goals (intro hb; have hb' := hb; (try simp only [pkC] at hb'); first | (exfalso; omega) | skip)) | ((with_reducible refine sd_guardT ?_ ?_); rfl) | ((with_reducible refine sd_guardF ?_ ?_); rfl) | (with_reducible (refine sd_guardS rfl ?_ ?_); all_goals (intro hb; have hb' := hb; (try simp only [pkC] at hb'); first | (exfalso; omega) | skip)) | ((with_reducible refine hK _ ?_); clear hK K) | (with_reducible refine and_split ?_ ?_) | ((with_reducible refine ct_id ?_); first | (refine callThen (l1HasInt_to s ((l[i] : Nat) : Int) (by omega)) trivial ?_ ?_)) | ((with_reducible refine ctd_id ?_); first | (refine callThenD (l1HasInt_to s ((l[i] : Nat) : Int) (by omega)) trivial ?_ ?_)) | ((with_reducible refine sw_id ?_); simp (disch := first | decide | omega) only [↓pkS, pkW, pkA, undef, capsOf, ex, St.put, St.ev, kav, gdA, opI, rawI, vbin, srcOf, avsD, acsD, AV.toD, AC.toD, AV.nw, AC.nw, AC.one, Value.oneCell', fillA, D.one, D.ones, D.sz, D.szs, Nat.reduceAdd, Nat.reduceSub, Nat.reduceLeDiff, Nat.reduceEqDiff, reduceIte, pkN, ln_acs, el_ln, getq_map, hh]) | ((with_reducible refine sd_id ?_); simp (disch := first | decide | omega) only [↓pkR, pkD, pkA, undef, capsOf, ex, St.put, St.ev, kav, gdA, opI, rawI, vbin, srcOf, avsD, acsD, AV.toD, AC.toD, AV.nw, AC.nw, AC.one, Value.oneCell', fillA, D.one, D.ones, D.sz, D.szs, Nat.reduceAdd, Nat.reduceSub, Nat.reduceLeDiff, Nat.reduceEqDiff, reduceIte, pkN, ln_acs, el_ln, getq_map, hh]) | (first | (with_reducible rfl) | (with_reducible refine fnok_id ?_; kernel_rfl) | exact el_strs _ | exact el_ints _ | exact el_ln _ | exact el_tk _ _ | exact el_td _ _ _ | omega | (simp; done) | (simp; omega)) | ((with_reducible refine args_id ?_); simp [ArgsOk, ArgOk, argsD, argD, AC.toD, Value.oneCell', sl_flat, leaf_flat, li_flat, ls_flat, sl_agg, leaf_agg, li_agg, ls_agg, mo_t, mo_f, ln_acs, el_ln, getq_map, hh]; done))
      all_goals
        refine roundR (i + 1, v) [0] ?_ (show i + 1 ≤ l.length by omega) (show l.length - (i + 1) < l.length - i by omega)
        simp [StLeR, FrLeR, OwnLeR, BoxLeR, AV.ren, AC.ren, AV.fits, AC.fits, FB, mask, hnx]
    | false =>
      have hc : (setL n (l.take i)).contains l[i] = false := by rw [hs, ← hasI_nat]; exact hh
      repeat' (first | (with_reducible first | refine awp_seq ?_ | refine awp_block ?_ | refine awp_skip ?_ | refine awp_exit ?_ | refine awp_ret ?_ | refine athen ?_ | refine thenExit ?_ | refine thenRet ?_ | refine blockNormal ?_ | refine blockExit ?_ | refine blockRet ?_ | refine roundExit ?_ | refine roundRet ?_ | refine roundExitR ?_ | refine roundRetR ?_) | ((with_reducible refine blockPass ?_ ?_); rfl) | ((with_reducible refine awp_condT ?_ ?_); rfl) | ((with_reducible refine awp_condF ?_ ?_); rfl) | (with_reducible (refine awp_condS rfl ?_ ?_); all_goals (intro hb; have hb' := hb; (try simp only [pkC] at hb'); first | (exfalso; omega) | skip)) | ((with_reducible refine awp_reg ?_); intro K hK) | ((first | ((with_reducible refine awp_regD false ?_ ?_); rfl) | ((with_reducible refine awp_regD true ?_ ?_); rfl)); intro K hK) | ((with_reducible refine sw_guardT ?_ ?_); rfl) | ((with_reducible refine sw_guardF ?_ ?_); rfl) | (with_reducible (refine sw_guardS rfl ?_ ?_); all_goals (intro hb; have hb' := hb; (try simp only [pkC] at hb'); first | (exfalso; omega) | skip)) | ((with_reducible refine sd_guardT ?_ ?_); rfl) | ((with_reducible refine sd_guardF ?_ ?_); rfl) | (with_reducible (refine sd_guardS rfl ?_ ?_); all_goals (intro hb; have hb' := hb; (try simp only [pkC] at hb'); first | (exfalso; omega) | skip)) | ((with_reducible refine hK _ ?_); clear hK K) | (with_reducible refine and_split ?_ ?_) | ((with_reducible refine ct_id ?_); first | (refine callThen (l1HasInt_to s ((l[i] : Nat) : Int) (by omega)) trivial ?_ ?_)) | ((with_reducible refine ctd_id ?_); first | (refine callThenD (l1HasInt_to s ((l[i] : Nat) : Int) (by omega)) trivial ?_ ?_)) | ((with_reducible refine sw_id ?_); simp (disch := first | decide | omega) only [↓pkS, pkW, pkA, undef, capsOf, ex, St.put, St.ev, kav, gdA, opI, rawI, vbin, srcOf, avsD, acsD, AV.toD, AC.toD, AV.nw, AC.nw, AC.one, Value.oneCell', fillA, D.one, D.ones, D.sz, D.szs, Nat.reduceAdd, Nat.reduceSub, Nat.reduceLeDiff, Nat.reduceEqDiff, reduceIte, pkN, ln_acs, el_ln, getq_map, hh]) | ((with_reducible refine sd_id ?_); simp (disch := first | decide | omega) only [↓pkR, pkD, pkA, undef, capsOf, ex, St.put, St.ev, kav, gdA, opI, rawI, vbin, srcOf, avsD, acsD, AV.toD, AC.toD, AV.nw, AC.nw, AC.one, Value.oneCell', fillA, D.one, D.ones, D.sz, D.szs, Nat.reduceAdd, Nat.reduceSub, Nat.reduceLeDiff, Nat.reduceEqDiff, reduceIte, pkN, ln_acs, el_ln, getq_map, hh]) | (first | (with_reducible rfl) | (with_reducible refine fnok_id ?_; kernel_rfl) | exact el_strs _ | exact el_ints _ | exact el_ln _ | exact el_tk _ _ | exact el_td _ _ _ | omega | (simp; done) | (simp; omega)) | ((with_reducible refine args_id ?_); simp [ArgsOk, ArgOk, argsD, argD, AC.toD, Value.oneCell', sl_flat, leaf_flat, li_flat, ls_flat, sl_agg, leaf_agg, li_agg, ls_agg, mo_t, mo_f, ln_acs, el_ln, getq_map, hh]; done))
      refine awp_loopB (X := Nat) (fun q => [.k, .d, .d, .k, .k, .v (.c false [.raw (.int .i64 (q : Nat))]), .d, .d, .d, .d, .d, .d, .d, .d, .d, .d, .d, .d, .d, .d, .d, .d, .d, .d, .d, .d, .d, .d, .d, .d, .d, .d, .d, .d, .d, .d, .d, .d, .d, .d, .d, .d, .d, .d, .d, .d, .d, .d, .d, .d, .d, .d, .d, .d, .d]) (fun q => [⟨s.map ln, 3, 1, v, true⟩]) (fun q bs => []) (fun q => q ≤ s.length ∧ ∀ (j : Nat) (h : j < q) (h2 : j < s.length), s[j] < l[i]) (fun q => s.length - q) 0 ⟨Nat.zero_le _, fun j h => by omega⟩ ?_ ?_
      · simp [StLe', FrLe, OwnLe, BoxLe, AV.fits, AC.fits, FB, mask]
      rintro pos ⟨hp, hlow⟩
      simp only [FB, mask]
      have htk : (s.map ln).take s.length = s.map ln := List.take_of_length_le (by simp)
      have fin : (∀ (h : pos < s.length), l[i] ≤ s[pos]) → (setL n (l.take (i + 1))).map ln = (s.map ln).take pos ++ (ln l[i] :: (s.map ln).drop pos) := fun h2 => by
        have h3 := setL_ins (pos := pos) hlt hx hc (by rw [hs]; exact hp) (fun j h => by have := hlow j h (by omega); simpa only [hs] using this) (fun h => by simp only [hs] at h ⊢; exact h2 h)
        rw [hs] at h3
        rw [← h3, List.map_append, List.map_cons, List.map_take, List.map_drop]
      repeat' (first | (with_reducible first | refine awp_seq ?_ | refine awp_block ?_ | refine awp_skip ?_ | refine awp_exit ?_ | refine awp_ret ?_ | refine athen ?_ | refine thenExit ?_ | refine thenRet ?_ | refine blockNormal ?_ | refine blockExit ?_ | refine blockRet ?_ | refine roundExit ?_ | refine roundRet ?_ | refine roundExitR ?_ | refine roundRetR ?_) | ((with_reducible refine blockPass ?_ ?_); rfl) | ((with_reducible refine awp_condT ?_ ?_); rfl) | ((with_reducible refine awp_condF ?_ ?_); rfl) | (with_reducible (refine awp_condS rfl ?_ ?_); all_goals (intro hb; have hb' := hb; (try simp only [pkC] at hb'); first | (exfalso; omega) | skip)) | ((with_reducible refine awp_reg ?_); intro K hK) | ((first | ((with_reducible refine awp_regD false ?_ ?_); rfl) | ((with_reducible refine awp_regD true ?_ ?_); rfl)); intro K hK) | ((with_reducible refine sw_guardT ?_ ?_); rfl) | ((with_reducible refine sw_guardF ?_ ?_); rfl) | (with_reducible (refine sw_guardS rfl ?_ ?_); all_goals (intro hb; have hb' := hb; (try simp only [pkC] at hb'); first | (exfalso; omega) | skip)) | ((with_reducible refine sd_guardT ?_ ?_); rfl) | ((with_reducible refine sd_guardF ?_ ?_); rfl) | (with_reducible (refine sd_guardS rfl ?_ ?_); all_goals (intro hb; have hb' := hb; (try simp only [pkC] at hb'); first | (exfalso; omega) | skip)) | ((with_reducible refine hK _ ?_); clear hK K) | (with_reducible refine and_split ?_ ?_) | (with_reducible refine lslKeep ?_) | ((with_reducible refine sw_id ?_); simp (disch := first | decide | omega) only [↓pkS, pkW, pkA, undef, capsOf, ex, St.put, St.ev, kav, gdA, opI, rawI, vbin, srcOf, avsD, acsD, AV.toD, AC.toD, AV.nw, AC.nw, AC.one, Value.oneCell', fillA, D.one, D.ones, D.sz, D.szs, Nat.reduceAdd, Nat.reduceSub, Nat.reduceLeDiff, Nat.reduceEqDiff, reduceIte, pkN, ln_acs, el_ln, getq_map]) | ((with_reducible refine sd_id ?_); simp (disch := first | decide | omega) only [↓pkR, pkD, pkA, undef, capsOf, ex, St.put, St.ev, kav, gdA, opI, rawI, vbin, srcOf, avsD, acsD, AV.toD, AC.toD, AV.nw, AC.nw, AC.one, Value.oneCell', fillA, D.one, D.ones, D.sz, D.szs, Nat.reduceAdd, Nat.reduceSub, Nat.reduceLeDiff, Nat.reduceEqDiff, reduceIte, pkN, ln_acs, el_ln, getq_map]) | (first | (with_reducible rfl) | (with_reducible refine fnok_id ?_; kernel_rfl) | exact el_strs _ | exact el_ints _ | exact el_ln _ | exact el_tk _ _ | exact el_td _ _ _ | omega | (simp; done) | (simp; omega)) | ((with_reducible refine args_id ?_); simp [ArgsOk, ArgOk, argsD, argD, AC.toD, Value.oneCell', sl_flat, leaf_flat, li_flat, ls_flat, sl_agg, leaf_agg, li_agg, ls_agg, mo_t, mo_f, ln_acs, el_ln, getq_map]; done))
      · refine roundB (pos + 1) ?_ ⟨by omega, fun j hj h2 => ?_⟩ (show s.length - (pos + 1) < s.length - pos by omega)
        · simp [StLe', FrLe, OwnLe, BoxLe, AV.fits, AC.fits, FB, mask]
        · rcases Nat.lt_or_ge j pos with h3 | h3
          · exact hlow j h3 h2
          · obtain rfl : j = pos := by omega
            omega
      all_goals
        (have hmap := fin (fun h => by omega)
         refine roundR (i + 1, 3) [1] ?_ (show i + 1 ≤ l.length by omega) (show l.length - (i + 1) < l.length - i by omega)
         simp [StLeR, FrLeR, OwnLeR, BoxLeR, AV.ren, AC.ren, AV.fits, AC.fits, FB, mask, hmap, htk, ln, li])
  · obtain rfl : i = l.length := by omega
    rw [List.take_length]
    repeat' (first | (with_reducible first | refine awp_seq ?_ | refine awp_block ?_ | refine awp_skip ?_ | refine awp_exit ?_ | refine awp_ret ?_ | refine athen ?_ | refine thenExit ?_ | refine thenRet ?_ | refine blockNormal ?_ | refine blockExit ?_ | refine blockRet ?_ | refine roundExit ?_ | refine roundRet ?_ | refine roundExitR ?_ | refine roundRetR ?_) | ((with_reducible refine blockPass ?_ ?_); rfl) | ((with_reducible refine awp_condT ?_ ?_); rfl) | ((with_reducible refine awp_condF ?_ ?_); rfl) | (with_reducible (refine awp_condS rfl ?_ ?_); all_goals (intro hb; have hb' := hb; (try simp only [pkC] at hb'); first | (exfalso; omega) | skip)) | ((with_reducible refine awp_reg ?_); intro K hK) | ((first | ((with_reducible refine awp_regD false ?_ ?_); rfl) | ((with_reducible refine awp_regD true ?_ ?_); rfl)); intro K hK) | ((with_reducible refine sw_guardT ?_ ?_); rfl) | ((with_reducible refine sw_guardF ?_ ?_); rfl) | (with_reducible (refine sw_guardS rfl ?_ ?_); all_goals (intro hb; have hb' := hb; (try simp only [pkC] at hb'); first | (exfalso; omega) | skip)) | ((with_reducible refine sd_guardT ?_ ?_); rfl) | ((with_reducible refine sd_guardF ?_ ?_); rfl) | (with_reducible (refine sd_guardS rfl ?_ ?_); all_goals (intro hb; have hb' := hb; (try simp only [pkC] at hb'); first | (exfalso; omega) | skip)) | ((with_reducible refine hK _ ?_); clear hK K) | (with_reducible refine and_split ?_ ?_) | ((with_reducible refine sw_id ?_); simp (disch := first | decide | omega) only [↓pkS, pkW, pkA, undef, capsOf, ex, St.put, St.ev, kav, gdA, opI, rawI, vbin, srcOf, avsD, acsD, AV.toD, AC.toD, AV.nw, AC.nw, AC.one, Value.oneCell', fillA, D.one, D.ones, D.sz, D.szs, Nat.reduceAdd, Nat.reduceSub, Nat.reduceLeDiff, Nat.reduceEqDiff, reduceIte, pkN, ln_acs, el_ln, getq_map]) | ((with_reducible refine sd_id ?_); simp (disch := first | decide | omega) only [↓pkR, pkD, pkA, undef, capsOf, ex, St.put, St.ev, kav, gdA, opI, rawI, vbin, srcOf, avsD, acsD, AV.toD, AC.toD, AV.nw, AC.nw, AC.one, Value.oneCell', fillA, D.one, D.ones, D.sz, D.szs, Nat.reduceAdd, Nat.reduceSub, Nat.reduceLeDiff, Nat.reduceEqDiff, reduceIte, pkN, ln_acs, el_ln, getq_map]) | (first | (with_reducible rfl) | (with_reducible refine fnok_id ?_; kernel_rfl) | exact el_strs _ | exact el_ints _ | exact el_ln _ | exact el_tk _ _ | exact el_td _ _ _ | omega | (simp; done) | (simp; omega)) | ((with_reducible refine args_id ?_); simp [ArgsOk, ArgOk, argsD, argD, AC.toD, Value.oneCell', sl_flat, leaf_flat, li_flat, ls_flat, sl_agg, leaf_agg, li_agg, ls_agg, mo_t, mo_f, ln_acs, el_ln, getq_map]; done))
    exact endRet ⟨0, _, _, rfl, rfl, rfl, rfl, rfl, rfl, Or.inl rfl⟩
end Go.Proofs.YtnfamcepojpkjaaGreat

namespace Go.Proofs.YtnfamcepojpkjaaGreat
open Go.RowKit
set_option linter.unusedSimpArgs false
set_option linter.unusedVariables false
def sortI (l : List Int) : List Int := l.mergeSort fun x y => decide (x ≤ y)
theorem sortI_len (l : List Int) : (sortI l).length = l.length := by simp [sortI]
section
open Go.Sort
theorem heap_sortedI {w : World} {g n : Nat} {os : Array Obj} {cur : Array Value} {e : TypeId} {fr : Nat × Nat} (d : Array Int) (hb : w.heap[g]? = some (.cells cur e fr)) :
    (grow (putRow (Value.int .i64) (Sort.ahead w n) g 0 d) os).heap[g]? = some (.cells (putCells (Value.int .i64) 0 d cur) e fr) := by
  have hg : g < w.heap.size := (Array.getElem?_eq_some_iff.1 hb).1
  rw [heap_grow_old _ _ (by simpa using hg)]
  simp [putRow, mapBlock, Sort.ahead, Array.getElem?_modify, hb, onCells]
theorem grownBy_sortedI {w : World} {g n : Nat} {os : Array Obj} (d : Array Int) : w.grownBy (grow (putRow (Value.int .i64) (Sort.ahead w n) g 0 d) os) (some g) := by
  refine ⟨rfl, rfl, rfl, by simp, fun k hk hne => ?_⟩
  rw [heap_grow_old _ _ (by simpa using hk)]
  have : g ≠ k := fun e => hne (by rw [e])
  simp [putRow, mapBlock, Sort.ahead, Array.getElem?_modify, this]
theorem take_putI (cur : Array Value) (ts : List Int) (h : ts.length ≤ cur.size) : (putCells (Value.int .i64) 0 ts.toArray cur).toList.take ts.length = ts.map (Value.int .i64) := by
  apply List.ext_getElem?
  intro j
  by_cases hj : j < ts.length
  · rw [List.getElem?_take_of_lt hj, Array.getElem?_toList]
    simp [putCells, hj, show j < cur.size by omega]
  · rw [List.getElem?_take_eq_none (by omega), List.getElem?_eq_none (by simp; omega)]
theorem sortInts_own (l : List Int) (g c base : Nat) (w : World) (h : OwnG w base 3 1 (l.map li) [] (.slice (some ⟨g, 0, none⟩) l.length c)) (hn : l.length ≤ 4194304) :
    Calls Tryz.prog 70 #[.slice (some ⟨g, 0, none⟩) l.length c] w fun e w' => e = .returned (.tuple #[]) ∧ OwnG w' base 3 1 ((sortI l).map li) [] (.slice (some ⟨g, 0, none⟩) l.length c) ∧ w.grownBy w' (some g) := by
  obtain ⟨cs, ⟨h1, h2⟩, h3, h4, h5⟩ := h
  obtain ⟨_, rfl⟩ := Rs_ints.1 h3
  rw [List.length_map] at h1 h2
  rcases h2 with ⟨h6, _⟩ | ⟨g', cap, cur, h6, h7, h8, h9, h10, h11, h12⟩
  · injection h6 with h6
    cases h6
  · injection h6 with h61 _ h63
    injection h61 with h61
    injection h61 with h61
    subst h61 h63
    have hg : g < w.heap.size := (Array.getElem?_eq_some_iff.1 h8).1
    have hH : Go.Sort.Holds (Value.int .i64) w g 0 l.toArray := by
      intro j hj
      have hj' : j < l.length := by simpa using hj
      have hc : cur[j]? = some (.int .i64 l[j]) := by
        have e : (cur.toList.take (l.length * 1))[j]? = (l.map (Value.int .i64))[j]? := by rw [h12]
        rw [List.getElem?_take_of_lt (by omega), Array.getElem?_toList, List.getElem?_map, List.getElem?_eq_getElem hj'] at e
        exact e
      refine ⟨?_, by simp [World.frozen?, h8]⟩
      have e2 : Value.int .i64 l.toArray[j]! = .int .i64 l[j] := by
        rw [getElem!_pos _ j hj]
        simp
      rw [e2]
      simpa [World.cell?, h8] using hc
    have hc := Tryz.sort_Ints g 0 c l w hH hg (by omega)
    refine hc.mono ?_
    rintro e w' ⟨rfl, n, os, rfl⟩
    refine ⟨rfl, ⟨(sortI l).map (Value.int .i64), ?_, Rs_ints.2 ⟨rfl, rfl⟩, Free.nil, fun _ _ => by simp⟩, grownBy_sortedI _⟩
    rw [List.length_map, sortI_len]
    refine ⟨by simp [sortI_len], .inr ⟨g, c, _, rfl, h7, heap_sortedI _ h8, h9, h10, by simp [putCells, h11], ?_⟩⟩
    have := take_putI cur (sortI l) (by rw [sortI_len, h11]; omega)
    rw [sortI_len] at this
    rw [Nat.mul_one]
    exact this
end
/-! ### The numbers, each once -/
def dedTo (l : List Nat) : Nat → List Nat
  | 0 => []
  | k + 1 => dedTo l k ++ (match l[k]? with | some x => if (l.take k).contains x then [] else [x] | none => [])
theorem dedTo_succ (l : List Nat) {k : Nat} (h : k < l.length) : dedTo l (k + 1) = dedTo l k ++ (if (l.take k).contains l[k] then [] else [l[k]]) := by rw [dedTo, List.getElem?_eq_getElem h]
theorem dedTo_len (l : List Nat) : ∀ k, (dedTo l k).length ≤ k
  | 0 => Nat.le_refl _
  | k + 1 => by
    have := dedTo_len l k
    rw [dedTo, List.length_append]
    split
    · split <;> simp <;> omega
    · simp; omega
theorem dedTo_mem (l : List Nat) : ∀ k, k ≤ l.length → ∀ x, x ∈ dedTo l k ↔ x ∈ l.take k
  | 0, _, x => by simp [dedTo]
  | k + 1, h, x => by
    have hk : k < l.length := by omega
    have ih := dedTo_mem l k (by omega) x
    rw [dedTo_succ l hk, List.take_succ_eq_append_getElem hk, List.mem_append, List.mem_append, ih]
    cases hc : (l.take k).contains l[k] with
    | true =>
      rw [if_pos rfl]
      rw [List.contains_iff_mem] at hc
      constructor
      · rintro (h | h)
        · exact Or.inl h
        · simp at h
      · rintro (h | h)
        · exact Or.inl h
        · rw [List.mem_singleton] at h; subst h; exact Or.inl hc
    | false => rw [if_neg (by simp)]
theorem dedTo_nodup (l : List Nat) : ∀ k, k ≤ l.length → (dedTo l k).Nodup
  | 0, _ => List.nodup_nil
  | k + 1, h => by
    have hk : k < l.length := by omega
    rw [dedTo_succ l hk]
    cases hc : (l.take k).contains l[k] with
    | true => rw [if_pos rfl, List.append_nil]; exact dedTo_nodup l k (by omega)
    | false =>
      rw [if_neg (by simp), List.nodup_append]
      refine ⟨dedTo_nodup l k (by omega), by simp, fun a ha b hb e => ?_⟩
      rw [List.mem_singleton] at hb
      subst hb e
      rw [dedTo_mem l k (by omega), ← List.contains_iff_mem] at ha
      rw [ha] at hc
      cases hc
theorem dedTo_n (n : Nat) (l : List Nat) (hb : ∀ x ∈ l, x < n) (k : Nat) (hk : k ≤ l.length) : (dedTo l k).length ≤ n :=
  nodup_len (dedTo_nodup l k hk) fun x hx => hb x (List.mem_of_mem_take ((dedTo_mem l k hk x).1 hx))
theorem sortI_set (n : Nat) (l : List Nat) (hb : ∀ x ∈ l, x < n) : (sortI ((dedTo l l.length).map Int.ofNat)).map li = (setL n l).map ln := by
  have hperm : (sortI ((dedTo l l.length).map Int.ofNat)).Perm ((dedTo l l.length).map Int.ofNat) := List.mergeSort_perm _ _
  have hsort := List.pairwise_mergeSort (le := fun x y : Int => decide (x ≤ y)) (fun a b c h1 h2 => by simp at *; omega) (fun a b => by simp; omega) ((dedTo l l.length).map Int.ofNat)
  have hnd : (sortI ((dedTo l l.length).map Int.ofNat)).Nodup := by
    refine hperm.nodup_iff.2 ?_
    exact (dedTo_nodup l _ (Nat.le_refl _)).map _ (fun a b hab e => hab (Int.ofNat.inj e))
  have hm : ∀ z ∈ sortI ((dedTo l l.length).map Int.ofNat), ∃ x ∈ l, z = (x : Int) := fun z hz => by
    obtain ⟨x, hx, rfl⟩ := List.mem_map.1 (hperm.mem_iff.1 hz)
    rw [dedTo_mem l _ (Nat.le_refl _), List.take_length] at hx
    exact ⟨x, hx, rfl⟩
  have e : (sortI ((dedTo l l.length).map Int.ofNat)).map Int.toNat = setL n l := by
    refine setL_eq ?_ (fun x => ?_)
    · rw [List.pairwise_map]
      have h2 := hsort.and hnd
      refine (List.Pairwise.imp_of_mem ?_ h2)
      intro a b ha hb' hab
      obtain ⟨x, _, rfl⟩ := hm a ha
      obtain ⟨y, _, rfl⟩ := hm b hb'
      have h3 := of_decide_eq_true hab.1
      have h4 := hab.2
      omega
    · constructor
      · intro hx
        obtain ⟨z, hz, rfl⟩ := List.mem_map.1 hx
        obtain ⟨y, hy, rfl⟩ := hm z hz
        exact ⟨by simpa using hb y hy, by simpa using hy⟩
      · rintro ⟨_, hx⟩
        refine List.mem_map.2 ⟨(x : Int), hperm.mem_iff.2 (List.mem_map.2 ⟨x, ?_, rfl⟩), by simp⟩
        rw [dedTo_mem l _ (Nat.le_refl _), List.take_length]
        exact hx
  rw [← e, List.map_map]
  refine List.map_congr_left fun z hz => ?_
  obtain ⟨x, _, rfl⟩ := hm z hz
  rfl
/-! ### The set of those that were seen -/
theorem plainElem_bool_inv {H : Type} {P : Program} {e : TypeId} (he : P.underlying e = some .bool) {v : Value} {z : DataW H × List MemPlace} (h : plainElem P e v = some z) : ∃ b, v = .bool b ∧ z = (.lit (.bool b), []) := by
  unfold plainElem at h
  rw [he] at h
  cases v <;> simp at h
  exact ⟨_, rfl, h.symm⟩
def Seen (w : World) (b n : Nat) (l : List Nat) : Prop := ∃ D : DataW Unit, w.ownsMap Tryz.prog 3 (plainElem Tryz.prog 4) b n D ∧ Maps.IsMap D ∧ ∀ x : Nat, (Lit.int .i64 (x : Int)).wf = true → D.atKey (.int .i64 (x : Int)) (.lit (.bool false)) = .lit (.bool (l.contains x))
def mt : TypeId := 106
theorem mt_u : Tryz.prog.underlying mt = some (.map 3 4) := by kernel_rfl
theorem int_u : Tryz.prog.underlying 3 = some (.int .i64) := by kernel_rfl
theorem bool_u : Tryz.prog.underlying 4 = some .bool := by kernel_rfl
theorem bool_z (w : World) : (zeroValue 4).run Tryz.prog w = .ok (.bool false) w := by kernel_rfl
theorem Seen.look {w : World} {b n : Nat} {l : List Nat} (h : Seen w b n l) {x : Nat} (hx : (Lit.int .i64 (x : Int)).wf = true) : (Instr.lookup mt (.map (some b)) (.int .i64 (x : Int)) false).run Tryz.prog w = .ok (.bool (l.contains x)) w := by
  obtain ⟨D, h1, h2, h3⟩ := h
  obtain ⟨v, ps, hrun, hv⟩ := h1.lookup (Maps.int_keyed int_u) mt_u (bool_z w) (plainElem_bool bool_u false) (Maps.keyOf_int_mk int_u hx)
  obtain ⟨c, rfl, hc⟩ := plainElem_bool_inv bool_u hv
  simp only [Prod.mk.injEq] at hc
  rw [h3 x hx] at hc
  have : c = l.contains x := by have := hc.1; simpa using this.symm
  rw [hrun, this]
theorem Seen.put {w : World} {b n : Nat} {l : List Nat} (h : Seen w b n l) {x : Nat} (hx : (Lit.int .i64 (x : Int)).wf = true) (hn : n < maxLen) :
    ∃ w', (Instr.mapUpdate mt (.map (some b)) (.int .i64 (x : Int)) (.bool true)).run Tryz.prog w = .ok () w' ∧ Seen w' b (n + 1) (l ++ [x]) ∧ w.grownBy w' (some b) := by
  obtain ⟨D, h1, h2, h3⟩ := h
  obtain ⟨w', hrun, g1, g2⟩ := h1.update (Maps.int_keyed int_u) mt_u hn (Maps.keyOf_int_mk int_u hx) (plainElem_bool bool_u true)
  refine ⟨w', hrun, ⟨_, g1, h2.put _ _, fun y hy => ?_⟩, g2⟩
  by_cases e : y = x
  · subst e
    rw [Maps.atKey_put_same h2 (by simp [WideAt.IsKeyLit])]
    simp
  · rw [Maps.atKey_put_other (fun h => e (by simp only [Lit.int.injEq, true_and] at h; omega)), h3 y hy]
    have : (l ++ [x]).contains y = l.contains y := by
      rw [Bool.eq_iff_iff]
      simp [e]
    rw [this]
theorem Seen.mono {w : World} {b n m : Nat} {l : List Nat} (h : Seen w b n l) (hm : n ≤ m) : Seen w b m l := by
  obtain ⟨D, h1, h2, h3⟩ := h
  exact ⟨D, h1.mono hm, h2, h3⟩
theorem Seen.kept {w w' : World} {row : Option Nat} {b n : Nat} {l : List Nat} (h : Seen w b n l) (hg : w.grownBy w' row) (hne : some b ≠ row) : Seen w' b n l := by
  obtain ⟨D, h1, h2, h3⟩ := h
  exact ⟨D, h1.kept hg hne, h2, h3⟩
theorem Seen.alloc {w : World} {b n : Nat} {l : List Nat} (h : Seen w b n l) (o : Obj) : Seen (w.alloc o) b n l := by
  obtain ⟨D, h1, h2, h3⟩ := h
  exact ⟨D, h1.alloc o, h2, h3⟩
theorem Seen.congr {w : World} {b n : Nat} {l m : List Nat} (h : Seen w b n l) (hlm : ∀ x, l.contains x = m.contains x) : Seen w b n m := by
  obtain ⟨D, h1, h2, h3⟩ := h
  exact ⟨D, h1, h2, fun x hx => by rw [h3 x hx, hlm]⟩
theorem Seen.made (w : World) : Seen (w.alloc (.map #[] 0)) w.heap.size 0 [] := ⟨.map [], World.ownsMap_made w _ _ _, Maps.isMap_empty, fun x _ => by simp [DataW.atKey]⟩
theorem Seen.lt {w : World} {b n : Nat} {l : List Nat} (h : Seen w b n l) : b < w.heap.size := by
  obtain ⟨D, h1, _⟩ := h
  exact h1.lt
theorem OwnG.grown {w w' : World} {base : Nat} {e : TypeId} {s : Nat} {l : List D} {v : Value} {row : Option Nat} (h : OwnG w base e s l [] v) (hg : w.grownBy w' row) (hne : v.ownBlock = none ∨ v.ownBlock ≠ row) : OwnG w' base e s l [] v := by
  obtain ⟨cs, h1, h2, h3, h4⟩ := h
  exact ⟨cs, h1.kept hg hne, h2.same (fun b hb => by simp at hb) hg.size, Free.nil, fun _ _ => by simp⟩
theorem ln_ones {l : List Nat} : ∀ d ∈ l.map ln, d.one := fun d h => by obtain ⟨x, _, rfl⟩ := List.mem_map.1 h; rfl
theorem ln_szs {l : List Nat} : ∀ d ∈ l.map ln, d.sz = 1 := fun d h => by obtain ⟨_, _, rfl⟩ := List.mem_map.1 h; rfl
theorem wf_nat {x : Nat} (h : x ≤ 1048576) : (Lit.int .i64 (x : Int)).wf = true := by
  have h1 : IntKind.i64.min ≤ (x : Int) := by simp [IntKind.min, IntKind.signed, IntKind.bits]
  have h2 : (x : Int) ≤ IntKind.i64.max := by simp [IntKind.max, IntKind.signed, IntKind.bits]; omega
  simp [Lit.wf, h1, h2]; omega
set_option maxRecDepth 20000 in
set_option maxHeartbeats 4000000 in
theorem sorted_own (n : Nat) (l : List Nat) (hbn : ∀ x ∈ l, x < n) (hn1 : n ≤ 1048576) (hll : l.length ≤ 2199023255552) (fp : List Nat) (v : Value) (w : World) (hS : Sl w (l.map ln) fp v) :
    Calls Tryz.prog 58 #[v] w (OwnPost false ((setL n l).map ln) 3 1 w) := by
  obtain ⟨A, c, rfl, hl, hc⟩ := hS.formT
  have hm : l.length ≤ 9223372036854775807 := by omega
  have hn' := Lib.hid hll
  have hn1' := Lib.hid hn1
  clear hl hc hll hn1
  have hmm := @run_makeMap Tryz.prog
  go_enter Tryz.func58, Tryz.ntmps58
  go_wp2_with fail
  go_loopw [4, 11] (fun nv iv wr => ∃ (k g c1 : Nat), k ≤ l.length ∧ iv = .int .i64 k ∧ nv = .slice (some ⟨g, 0, none⟩) (dedTo l k).length c1 ∧ OwnG wr (w.heap.size + 1) 3 1 ((dedTo l k).map ln) [] nv ∧ Seen wr w.heap.size k (l.take k) ∧ Below w.heap.size w wr) (fun _ iv _ => l.length - (intOf iv).toNat)
  case atStart => exact ⟨0, _, _, by omega, rfl, rfl, OwnG.lit (by simp) (Nat.le_refl _), (Seen.made w).alloc _, ((Below.refl _ _).alloc (Nat.le_refl _) _).alloc (by simp) _⟩
  case round =>
    obtain ⟨k, g, c1, hk, rfl, rfl, ho, hse, hb⟩ := hrel
    by_cases hlt : k < l.length
    · have hd : (l.map ln)[k]? = some (ln l[k]) := by rw [List.getElem?_map, List.getElem?_eq_getElem hlt]; rfl
      obtain ⟨b, o, fi, ci, rfl, hbb, hbf, hri, hfi, hat⟩ := hS.elem ln_szs hd
      obtain ⟨rfl, rfl⟩ := hri
      simp only [Nat.mul_one] at hat
      have q0 : wr.cell? ⟨b, o + k, none⟩ = some (.int .i64 ((l[k] : Nat) : Int)) := (hb.cell (p := ⟨b, o + k, none⟩) hbb).trans hat.head
      have hsu := Lib.hid (dedTo_succ l hlt)
      have hfl := Lib.hid (dedTo_n n l hbn k hk)
      have hwf := Lib.hid (wf_nat (x := l[k]) (by have := hbn l[k] (List.getElem_mem hlt); have := hn1'.out; omega))
      have hlook := hse.look hwf.out
      clear hat hd
      cases e1 : (l.take k).contains l[k] with
      | true =>
        rw [e1] at hlook
        have e2 := Lib.hid (show dedTo l (k + 1) = dedTo l k by rw [hsu.out, if_pos e1, List.append_nil])
        have hse2 : Seen wr w.heap.size (k + 1) (l.take (k + 1)) := (hse.mono (Nat.le_succ k)).congr (fun x => by
          rw [List.take_succ_eq_append_getElem hlt, Bool.eq_iff_iff]
          simp only [List.contains_iff_mem, List.mem_append, List.mem_singleton]
          rw [List.contains_iff_mem] at e1
          exact ⟨Or.inl, fun h => h.elim id (fun h => h ▸ e1)⟩)
        unfold mt at hlook
        clear e1
        go_wp2_with fail
        go_roundw
        case rel => exact ⟨k + 1, g, c1, by omega, by go_num, by rw [e2.out], by rw [e2.out]; exact ho, hse2, hb⟩
        case measure => (simp [intOf] <;> omega)
      | false =>
        rw [e1] at hlook
        have e2 := Lib.hid (show dedTo l (k + 1) = dedTo l k ++ [l[k]] by rw [hsu.out, if_neg (by rw [e1]; simp)])
        obtain ⟨w1, hput, hse1, hg1⟩ := hse.put hwf.out (by have := hn'.out; unfold maxLen; omega)
        have ho1 := ho.grown hg1 (Or.inr (fun e => by have := (ho.ge w.heap.size e).1; omega))
        have hb1 : Below w.heap.size w w1 := hb.grown hg1 hb.size (fun b h => by have h := Option.some.inj h; omega)
        have hgne : ∀ g', (Value.slice (some ⟨g, 0, none⟩) (dedTo l k).length c1).ownBlock = some g' → w.heap.size ≠ g' := fun g' h e => by have := (ho.ge g' h).1; omega
        have hs1 : w.heap.size < w1.heap.size := hse1.lt
        have htk : l.take (k + 1) = l.take k ++ [l[k]] := List.take_succ_eq_append_getElem hlt
        have htk' := Lib.hid htk
        rw [← htk] at hse1
        unfold mt at hlook hput
        clear e1 htk hse
        go_wp2_with (at_builtin; refine wpList_append_G rfl ekint (.tmp 21) (.tmp 23) rfl (w.heap.size + 1) _ (by rfl) _ [] (ho1.below ((Below.refl _ _).alloc (Nat.le_refl _) _)) ([l[k]].map ln) [] _ (by rfl) (Src.one (Row.new_at rfl) ⟨rfl, rfl⟩) ln_ones ln_szs free_nil dis_nil (by have := hfl.out; have := hn1'.out; simp; omega) (by simp; omega) ?_; intro v1 w2 ho2 hg2 hat2)
        rw [← List.map_append, ← e2.out] at ho2
        have hlen : 0 < (dedTo l (k + 1)).length := by rw [e2.out]; simp
        obtain ⟨g5, c5, hv5⟩ := ho2.formPos (by rw [List.length_map]; exact hlen)
        rw [List.length_map] at hv5
        subst hv5
        have L3 : Below w.heap.size w w2 := below_own (hb1.alloc (Nat.le_of_lt hs1) _) hg2 (by simp; omega) (fun g' h => by have := (ho1.ge g' h).1; omega)
        have hse2 := (hse1.alloc _).kept hg2 (fun e => hgne _ e.symm rfl)
        go_roundw
        case rel => exact ⟨k + 1, g5, c5, by omega, by go_num, rfl, ho2, hse2, L3⟩
        case measure => (simp [intOf] <;> omega)
    · have hf := Lib.hid (show k = l.length by omega)
      have hfl := dedTo_n n l hbn k hk
      have ho' : OwnG wr (w.heap.size + 1) 3 1 (((dedTo l k).map Int.ofNat).map li) [] (.slice (some ⟨g, 0, none⟩) ((dedTo l k).map Int.ofNat).length c1) := by
        rw [List.length_map, List.map_map]; exact ho
      have hs := sortInts_own ((dedTo l k).map Int.ofNat) g c1 (w.heap.size + 1) wr ho' (by rw [List.length_map]; have := hn1'.out; omega)
      rw [List.length_map] at hs
      clear hfl ho'
      go_wp2_with (go_at_call 70; refine hs.mono ?_; rintro e w2 ⟨rfl, ho2, hg2⟩)
      have L2 : Below w.heap.size w w2 := below_own (v := .slice (some ⟨g, 0, none⟩) 0 0) hb hg2 hb.size (fun g' h => by have h := Option.some.inj h; subst h; have := (ho.ge g rfl).1; show w.heap.size ≤ g; omega)
      go_ret
      have e := hf.out
      clear hf
      subst e
      have hset := sortI_set n l hbn
      have hlen2 : (setL n l).length = (dedTo l l.length).length := by
        have := congrArg List.length hset
        rw [List.length_map, List.length_map, sortI_len, List.length_map] at this
        exact this.symm
      rw [hset, ← hlen2] at ho2
      obtain ⟨cs, q1, q2, q3, q4⟩ := ho2.mono (Nat.le_succ _)
      rw [List.length_map] at q1
      exact ⟨_, cs, [], by rw [← hlen2]; rfl, by rw [List.length_map]; exact OwnsAt.of q1, q2, fun b hb => by simp at hb, L2⟩
theorem sorted_to (n : Nat) (l : List Nat) (hbn : ∀ x ∈ l, x < n) (hn1 : n ≤ 1048576) (hll : l.length ≤ 2199023255552) : CallsOwn Tryz.prog 58 [.sl (l.map ln)] ((setL n l).map ln) 3 1 := fun w vs hr _ => by
  obtain ⟨v, rfl, h1⟩ := rds1 hr
  obtain ⟨fp, hS⟩ := rd_sl h1
  exact sorted_own n l hbn hn1 hll fp v w hS
end Go.Proofs.YtnfamcepojpkjaaGreat

namespace Go.Proofs.YtnfamcepojpkjaaGreat
open Go.RowKit
set_option linter.unusedSimpArgs false
set_option linter.unusedVariables false
theorem defsTo_mem (l : List GPart) (nm : ByteArray) : ∀ (k : Nat) (z : Int), z ∈ defsTo l nm k → ∃ j : Nat, j < k ∧ j < l.length ∧ z = (j : Int)
  | 0, z, h => by simp [defsTo] at h
  | k + 1, z, h => by
    rw [defsTo] at h
    rcases List.mem_append.1 h with h | h
    · obtain ⟨j, h1, h2, h3⟩ := defsTo_mem l nm k z h
      exact ⟨j, by omega, h2, h3⟩
    · split at h
      · next x hx =>
        split at h
        · simp at h
          exact ⟨k, by omega, (List.getElem?_eq_some_iff.1 hx).1, h⟩
        · simp at h
      · simp at h
/-- What a name resolves to, in short. -/
def rv (l : List GPart) (s : ByteArray) : Int := resV (defsTo l s l.length)
theorem rv_lt (l : List GPart) (s : ByteArray) (h : 0 ≤ rv l s) : (rv l s).toNat < l.length := by
  unfold rv resV at h ⊢
  split
  · next e => rw [e] at h; simp at h
  · next z e =>
    obtain ⟨j, _, h2, rfl⟩ := defsTo_mem l s l.length z (by rw [e]; simp)
    simpa using h2
  · next h1 h2 =>
    exfalso
    split at h
    · simp at h
    · next z e => exact h2 z e
    · simp at h
def ruses (l : List GPart) (us : List ByteArray) : List Nat := us.filterMap fun s => if 0 ≤ rv l s then some (rv l s).toNat else none
theorem ruses_t (l : List GPart) (us : List ByteArray) {k : Nat} (h : k < us.length) (e : 0 ≤ rv l us[k]) : ruses l (us.take (k + 1)) = ruses l (us.take k) ++ [(rv l us[k]).toNat] := by
  unfold ruses; rw [List.take_succ_eq_append_getElem h, List.filterMap_append]; simp [e]
theorem ruses_f (l : List GPart) (us : List ByteArray) {k : Nat} (h : k < us.length) (e : ¬ 0 ≤ rv l us[k]) : ruses l (us.take (k + 1)) = ruses l (us.take k) := by
  unfold ruses; rw [List.take_succ_eq_append_getElem h, List.filterMap_append]; simp [e]
theorem ruses_lt (l : List GPart) (us : List ByteArray) : ∀ x ∈ ruses l us, x < l.length := by
  intro x hx
  unfold ruses at hx
  obtain ⟨s, _, hs⟩ := List.mem_filterMap.1 hx
  split at hs
  · next h => injection hs with hs; subst hs; exact rv_lt l s h
  · cases hs
theorem ruses_len (l : List GPart) (us : List ByteArray) (k : Nat) : (ruses l (us.take k)).length ≤ us.length := by
  unfold ruses
  refine Nat.le_trans (List.length_filterMap_le _ _) ?_
  rw [List.length_take]; omega
def du (l : List GPart) (i : Nat) : List Nat := match l[i]? with | some x => setL l.length (ruses l (usesL x)) | none => []
def duI (l : List GPart) (z : Int) : List Nat := if 0 ≤ z then du l z.toNat else []
theorem du_at (l : List GPart) {i : Nat} (h : i < l.length) : du l i = setL l.length (ruses l (usesL l[i])) := by unfold du; rw [List.getElem?_eq_getElem h]
theorem duI_nat (l : List GPart) (i : Nat) : duI l (i : Int) = du l i := by simp [duI]
theorem du_lt (l : List GPart) (i : Nat) : ∀ x ∈ du l i, x < l.length := by
  intro x hx
  unfold du at hx
  split at hx
  · exact (mem_setL.1 hx).1
  · simp at hx
theorem du_len (l : List GPart) (i : Nat) : (du l i).length ≤ l.length := by
  unfold du
  split
  · exact setN_len _ _
  · simp
theorem duI_len (l : List GPart) (z : Int) : (duI l z).length ≤ l.length := by
  unfold duI
  split
  · exact du_len _ _
  · simp
theorem duI_lt (l : List GPart) (z : Int) : ∀ x ∈ duI l z, x < l.length := by
  intro x hx
  unfold duI at hx
  split at hx
  · exact du_lt _ _ x hx
  · simp at hx
def inB (z a b : Int) : Bool := decide (a ≤ z) && decide (z ≤ b)
def usI (l : List GPart) (z : Int) : List Nat := setN l.length fun k => hasI (du l k) z
theorem setN_succ (k : Nat) (p : Nat → Bool) : setN (k + 1) p = setN k p ++ (if p k then [k] else []) := by
  unfold setN
  rw [List.range_succ, List.filter_append]
  congr 1
  cases h : p k <;> simp [h]
def ic_l1In : IC := (.seq (.reg false [⟨(some 6), none, .mov (.k (.bool false))⟩]) (.seq (.reg false [⟨(some 7), none, .mov (.t 0)⟩, ⟨(some 8), none, .mov (.t 1)⟩, ⟨(some 9), none, .bin .geq (.t 7) (.t 8)⟩, ⟨(some 10), none, .mov (.t 9)⟩, ⟨(some 11), (some (10, true)), .mov (.t 0)⟩, ⟨(some 12), (some (10, true)), .mov (.t 2)⟩, ⟨(some 13), (some (10, true)), .bin .leq (.t 11) (.t 12)⟩, ⟨(some 14), none, .pick (.t 10) (.t 13) (.k (.bool false))⟩, ⟨(some 6), none, .mov (.t 14)⟩]) .ret))
theorem ic_l1In_ok : compC Tryz.prog (Tryz.f46.body.getD .skip) = some ic_l1In := by kernel_rfl
theorem l1In_to (z a b : Int) : CallsTo Tryz.prog 46 [li z, li a, li b] (.c false [.raw (.bool (inB z a b))]) := by
  refine calls_one (fn := Tryz.f46) (t := 6) (by kernel_rfl) (by kernel_rfl) (by kernel_rfl) ic_l1In_ok ?_
  unfold ic_l1In
  change AWP _ _ _ (st0 15 _)
  simp only [undef, stS, st0, stN, D.av, D.avN, sl_agg, leaf_agg, li_agg, ls_agg, sl_acs, leaf_acs, li_acs, ls_acs, ln_acs, el_ln, getq_map, GExpr.acs_eq, GExpr.flat_eq, GExpr.agg_eq, GExpr.el, GPart.acs_eq, GPart.flat_eq, GPart.agg_eq, GPart.el, List.map_cons, List.map_nil, List.replicate, List.cons_append, List.nil_append, List.length_cons, List.length_nil, Nat.reduceAdd, Nat.reduceSub]
  repeat' (first | (with_reducible first | refine awp_seq ?_ | refine awp_block ?_ | refine awp_skip ?_ | refine awp_exit ?_ | refine awp_ret ?_ | refine athen ?_ | refine thenExit ?_ | refine thenRet ?_ | refine blockNormal ?_ | refine blockExit ?_ | refine blockRet ?_ | refine roundExit ?_ | refine roundRet ?_ | refine roundExitR ?_ | refine roundRetR ?_) | ((with_reducible refine blockPass ?_ ?_); rfl) | ((with_reducible refine awp_condT ?_ ?_); rfl) | ((with_reducible refine awp_condF ?_ ?_); rfl) | (with_reducible (refine awp_condS rfl ?_ ?_); all_goals (intro hb; have hb' := hb; (try simp only [pkC] at hb'); first | (exfalso; omega) | skip)) | ((with_reducible refine awp_reg ?_); intro K hK) | ((with_reducible refine sw_guardT ?_ ?_); rfl) | ((with_reducible refine sw_guardF ?_ ?_); rfl) | (with_reducible (refine sw_guardS rfl ?_ ?_); all_goals (intro hb; have hb' := hb; (try simp only [pkC] at hb'); first | (exfalso; omega) | skip)) | ((with_reducible refine hK _ ?_); clear hK K) | (with_reducible refine and_split ?_ ?_) | ((with_reducible refine sw_id ?_); simp (disch := first | decide | omega) only [↓pkS, pkW, pkA, undef, capsOf, ex, St.put, St.ev, kav, gdA, opI, rawI, vbin, srcOf, avsD, acsD, AV.toD, AC.toD, AV.nw, AC.nw, AC.one, Value.oneCell', fillA, D.one, D.ones, D.sz, D.szs, Nat.reduceAdd, Nat.reduceSub, Nat.reduceLeDiff, Nat.reduceEqDiff, reduceIte, pkN, ln_acs, el_ln, getq_map, GExpr.acs_eq, GExpr.flat_eq, GExpr.agg_eq, GExpr.el, GPart.acs_eq, GPart.flat_eq, GPart.agg_eq, GPart.el]) | (first | (with_reducible rfl) | (with_reducible refine fnok_id ?_; kernel_rfl) | exact el_strs _ | exact el_ints _ | exact el_ln _ | exact el_tk _ _ | exact el_td _ _ _ | omega | (simp; done) | (simp; omega)) | ((with_reducible refine args_id ?_); simp [ArgsOk, ArgOk, argsD, argD, AC.toD, Value.oneCell', sl_flat, leaf_flat, li_flat, ls_flat, sl_agg, leaf_agg, li_agg, ls_agg, mo_t, mo_f, ln_acs, el_ln, getq_map, GExpr.acs_eq, GExpr.flat_eq, GExpr.agg_eq, GExpr.el, GPart.acs_eq, GPart.flat_eq, GPart.agg_eq, GPart.el]; done))
  all_goals exact endRet ⟨_, rfl, by simp [inB, *]; rfl, trivial⟩
def ic_du_spec : IC := (.seq (.reg false [⟨(some 4), none, .mov (.k (.slice none 0 0))⟩]) (.seq (.reg false [⟨(some 9), none, .brow true 3 1 0 false []⟩, ⟨(some 5), none, .mov (.t 9)⟩]) (.seq (.seq (.reg false [⟨(some 10), none, .mov (.t 1)⟩, ⟨(some 11), none, .mov (.t 0)⟩, ⟨(some 12), none, .len false (.t 11)⟩, ⟨(some 13), none, .bin .sub (.t 12) (.k (.int .i64 1))⟩, ⟨(some 14), none, .call 46 [(.t 10), (.k (.int .i64 0)), (.t 13)]⟩, ⟨(some 15), none, .not (.t 14)⟩]) (.cond (.t 15) (.seq (.reg false [⟨(some 16), none, .mov (.t 5)⟩, ⟨(some 4), none, .mov (.t 16)⟩]) .ret) .skip)) (.seq (.reg false [⟨(some 17), none, .mov (.t 0)⟩, ⟨(some 18), none, .mov (.t 1)⟩, ⟨(some 19), none, .iad 14 (.t 17) (.t 18)⟩, ⟨(some 20), none, .load 14 true (.t 19)⟩, ⟨(some 21), none, .call 47 [(.t 20)]⟩, ⟨(some 6), none, .mov (.t 21)⟩]) (.seq (.seq (.reg false [⟨(some 7), none, .mov (.k (.int .i64 0))⟩]) (.block 0 (.loop (.seq (.seq (.reg false [⟨(some 22), none, .mov (.t 7)⟩, ⟨(some 23), none, .mov (.t 6)⟩, ⟨(some 24), none, .len false (.t 23)⟩, ⟨(some 25), none, .bin .lss (.t 22) (.t 24)⟩]) (.cond (.t 25) .skip (.exit 0))) (.seq (.block 1 (.seq (.reg false [⟨(some 28), none, .mov (.t 0)⟩, ⟨(some 29), none, .mov (.t 6)⟩, ⟨(some 30), none, .mov (.t 7)⟩, ⟨(some 31), none, .iad 1 (.t 29) (.t 30)⟩, ⟨(some 32), none, .load 1 false (.t 31)⟩, ⟨(some 33), none, .call 48 [(.t 28), (.t 32)]⟩, ⟨(some 8), none, .mov (.t 33)⟩]) (.seq (.reg false [⟨(some 34), none, .mov (.t 8)⟩, ⟨(some 35), none, .bin .geq (.t 34) (.k (.int .i64 0))⟩]) (.cond (.t 35) (.reg false [⟨(some 36), none, .mov (.t 5)⟩, ⟨(some 37), none, .mov (.t 8)⟩, ⟨(some 38), none, .brow false 3 1 1 false [(.t 37)]⟩, ⟨(some 39), none, .app 3 1 (.t 36) (.t 38)⟩, ⟨(some 5), none, .mov (.t 39)⟩]) .skip)))) (.reg false [⟨(some 26), none, .mov (.t 7)⟩, ⟨(some 27), none, .bin .add (.t 26) (.k (.int .i64 1))⟩, ⟨(some 7), none, .mov (.t 27)⟩])))))) (.seq (.reg false [⟨(some 40), none, .mov (.t 5)⟩, ⟨(some 41), none, .call 49 [(.t 40)]⟩, ⟨(some 4), none, .mov (.t 41)⟩]) .ret))))))
theorem ic_du_spec_ok : compC Tryz.prog (Tryz.f30.body.getD .skip) = some ic_du_spec := by kernel_rfl
set_option maxHeartbeats 8000000 in
theorem directUses_spec_to (l : List GPart) (z : Int) (hw : l.length + D.wts (l.map GPart.toD) ≤ 1048576) : CallsOwn Tryz.prog 30 [.sl (l.map GPart.toD), li z] ((duI l z).map ln) 3 1 := by
  have hn : l.length ≤ 1048576 := by omega
  refine calls_ownN (fn := Tryz.f30) (t := 4) (by kernel_rfl) (by kernel_rfl) (by kernel_rfl) ic_du_spec_ok ?_
  unfold ic_du_spec
  change AWP _ _ _ (st0 42 _)
  simp only [undef, stS, st0, stN, D.av, D.avN, sl_agg, leaf_agg, li_agg, ls_agg, sl_acs, leaf_acs, li_acs, ls_acs, ln_acs, el_ln, getq_map, GExpr.acs_eq, GExpr.flat_eq, GExpr.agg_eq, GExpr.el, GPart.acs_eq, GPart.flat_eq, GPart.agg_eq, GPart.el, List.map_cons, List.map_nil, List.replicate, List.cons_append, List.nil_append, List.length_cons, List.length_nil, Nat.reduceAdd, Nat.reduceSub]
  cases hin : inB z 0 ((l.length : Int) - 1) with
  | false =>
    have hz0 : duI l z = [] := by
      unfold duI
      split
      · have : ¬ z.toNat < l.length := by simp [inB] at hin; omega
        unfold du; rw [List.getElem?_eq_none (by omega)]
      · rfl
    rw [hz0]
    repeat' (first | (with_reducible first | refine awp_seq ?_ | refine awp_block ?_ | refine awp_skip ?_ | refine awp_exit ?_ | refine awp_ret ?_ | refine athen ?_ | refine thenExit ?_ | refine thenRet ?_ | refine blockNormal ?_ | refine blockExit ?_ | refine blockRet ?_ | refine roundExit ?_ | refine roundRet ?_ | refine roundExitR ?_ | refine roundRetR ?_) | ((with_reducible refine blockPass ?_ ?_); rfl) | ((with_reducible refine awp_condT ?_ ?_); rfl) | ((with_reducible refine awp_condF ?_ ?_); rfl) | (with_reducible (refine awp_condS rfl ?_ ?_); all_goals (intro hb; have hb' := hb; (try simp only [pkC] at hb'); first | (exfalso; omega) | skip)) | ((with_reducible refine awp_reg ?_); intro K hK) | ((with_reducible refine sw_guardT ?_ ?_); rfl) | ((with_reducible refine sw_guardF ?_ ?_); rfl) | (with_reducible (refine sw_guardS rfl ?_ ?_); all_goals (intro hb; have hb' := hb; (try simp only [pkC] at hb'); first | (exfalso; omega) | skip)) | ((with_reducible refine hK _ ?_); clear hK K) | (with_reducible refine and_split ?_ ?_) | ((with_reducible refine ct_id ?_); first | (refine callThen (l1In_to z 0 ((l.length : Int) - 1)) trivial ?_ ?_)) | ((with_reducible refine ctd_id ?_); first | (refine callThenD (l1In_to z 0 ((l.length : Int) - 1)) trivial ?_ ?_)) | ((with_reducible refine sw_id ?_); simp (disch := first | decide | omega) only [↓pkS, pkW, pkA, undef, capsOf, ex, St.put, St.ev, kav, gdA, opI, rawI, vbin, srcOf, avsD, acsD, AV.toD, AC.toD, AV.nw, AC.nw, AC.one, Value.oneCell', fillA, D.one, D.ones, D.sz, D.szs, Nat.reduceAdd, Nat.reduceSub, Nat.reduceLeDiff, Nat.reduceEqDiff, reduceIte, pkN, ln_acs, el_ln, getq_map, GExpr.acs_eq, GExpr.flat_eq, GExpr.agg_eq, GExpr.el, GPart.acs_eq, GPart.flat_eq, GPart.agg_eq, GPart.el, hin]) | (first | (with_reducible rfl) | (with_reducible refine fnok_id ?_; kernel_rfl) | exact el_strs _ | exact el_ints _ | exact el_ln _ | exact el_tk _ _ | exact el_td _ _ _ | omega | (simp; done) | (simp; omega)) | ((with_reducible refine args_id ?_); simp [ArgsOk, ArgOk, argsD, argD, AC.toD, Value.oneCell', sl_flat, leaf_flat, li_flat, ls_flat, sl_agg, leaf_agg, li_agg, ls_agg, mo_t, mo_f, ln_acs, el_ln, getq_map, GExpr.acs_eq, GExpr.flat_eq, GExpr.agg_eq, GExpr.el, GPart.acs_eq, GPart.flat_eq, GPart.agg_eq, GPart.el, hin]; done))
    exact endOwn rfl rfl rfl rfl rfl rfl (Or.inl rfl)
  | true =>
    have h0 : 0 ≤ z := by simp [inB] at hin; omega
    have hlt : z.toNat < l.length := by simp [inB] at hin; omega
    have hdu : duI l z = setL l.length (ruses l (usesL l[z.toNat])) := by unfold duI; rw [if_pos h0, du_at l hlt]
    have hul := usesL_len l[z.toNat] (part_wt hw hlt)
    rw [hdu]
    repeat' (first | (with_reducible first | refine awp_seq ?_ | refine awp_block ?_ | refine awp_skip ?_ | refine awp_exit ?_ | refine awp_ret ?_ | refine athen ?_ | refine thenExit ?_ | refine thenRet ?_ | refine blockNormal ?_ | refine blockExit ?_ | refine blockRet ?_ | refine roundExit ?_ | refine roundRet ?_ | refine roundExitR ?_ | refine roundRetR ?_) | ((with_reducible refine blockPass ?_ ?_); rfl) | ((with_reducible refine awp_condT ?_ ?_); rfl) | ((with_reducible refine awp_condF ?_ ?_); rfl) | (with_reducible (refine awp_condS rfl ?_ ?_); all_goals (intro hb; have hb' := hb; (try simp only [pkC] at hb'); first | (exfalso; omega) | skip)) | ((with_reducible refine awp_reg ?_); intro K hK) | ((with_reducible refine sw_guardT ?_ ?_); rfl) | ((with_reducible refine sw_guardF ?_ ?_); rfl) | (with_reducible (refine sw_guardS rfl ?_ ?_); all_goals (intro hb; have hb' := hb; (try simp only [pkC] at hb'); first | (exfalso; omega) | skip)) | ((with_reducible refine hK _ ?_); clear hK K) | (with_reducible refine and_split ?_ ?_) | ((with_reducible refine ct_id ?_); first | (refine callThen (l1In_to z 0 ((l.length : Int) - 1)) trivial ?_ ?_) | (refine callThen ((usesOf_spec_to l[z.toNat] (part_wt hw hlt)).to (flat_strs' _)) trivial ?_ ?_)) | ((with_reducible refine ctd_id ?_); first | (refine callThenD (l1In_to z 0 ((l.length : Int) - 1)) trivial ?_ ?_) | (refine callThenD ((usesOf_spec_to l[z.toNat] (part_wt hw hlt)).to (flat_strs' _)) trivial ?_ ?_)) | ((with_reducible refine sw_id ?_); simp (disch := first | decide | omega) only [↓pkS, pkW, pkA, undef, capsOf, ex, St.put, St.ev, kav, gdA, opI, rawI, vbin, srcOf, avsD, acsD, AV.toD, AC.toD, AV.nw, AC.nw, AC.one, Value.oneCell', fillA, D.one, D.ones, D.sz, D.szs, Nat.reduceAdd, Nat.reduceSub, Nat.reduceLeDiff, Nat.reduceEqDiff, reduceIte, pkN, ln_acs, el_ln, getq_map, GExpr.acs_eq, GExpr.flat_eq, GExpr.agg_eq, GExpr.el, GPart.acs_eq, GPart.flat_eq, GPart.agg_eq, GPart.el, hin]) | (first | (with_reducible rfl) | (with_reducible refine fnok_id ?_; kernel_rfl) | exact el_strs _ | exact el_ints _ | exact el_ln _ | exact el_tk _ _ | exact el_td _ _ _ | omega | (simp; done) | (simp; omega)) | ((with_reducible refine args_id ?_); simp [ArgsOk, ArgOk, argsD, argD, AC.toD, Value.oneCell', sl_flat, leaf_flat, li_flat, ls_flat, sl_agg, leaf_agg, li_agg, ls_agg, mo_t, mo_f, ln_acs, el_ln, getq_map, GExpr.acs_eq, GExpr.flat_eq, GExpr.agg_eq, GExpr.el, GPart.acs_eq, GPart.flat_eq, GPart.agg_eq, GPart.el, hin]; done))
    refine awp_loopB (X := Nat × Nat) (fun q => [.k, .d, .d, .d, .d, .v (.c false [.own 0 q.2]), .k, .v (.c false [.raw (.int .i64 (q.1 : Nat))]), .d, .d, .d, .d, .d, .d, .d, .d, .d, .d, .d, .d, .d, .d, .d, .d, .d, .d, .d, .d, .d, .d, .d, .d, .d, .d, .d, .d, .d, .d, .d, .d, .d, .d]) (fun q => [⟨(ruses l ((usesL l[z.toNat]).take q.1)).map ln, 3, 1, q.2, true⟩]) (fun q bs => bs) (fun q => q.1 ≤ (usesL l[z.toNat]).length) (fun q => (usesL l[z.toNat]).length - q.1) (0, 0) (Nat.zero_le _) ?_ ?_
    · simp [StLe', FrLe, OwnLe, BoxLe, AV.fits, AC.fits, FB, mask, ruses]
    rintro ⟨k, v⟩ hk
    have hk' : k ≤ (usesL l[z.toNat]).length := hk
    clear hk
    have hrl := ruses_len l (usesL l[z.toNat]) k
    simp only [FB, mask]
    by_cases hlk : k < (usesL l[z.toNat]).length
    · have hrv : resV (defsTo l (usesL l[z.toNat])[k] l.length) = rv l (usesL l[z.toNat])[k] := rfl
      by_cases hr : 0 ≤ rv l (usesL l[z.toNat])[k]
      · have hs := ruses_t l (usesL l[z.toNat]) hlk hr
        have hlv := rv_lt l _ hr
        have hcast : ((rv l (usesL l[z.toNat])[k]).toNat : Int) = rv l (usesL l[z.toNat])[k] := by omega
        repeat' (first | (with_reducible first | refine awp_seq ?_ | refine awp_block ?_ | refine awp_skip ?_ | refine awp_exit ?_ | refine awp_ret ?_ | refine athen ?_ | refine thenExit ?_ | refine thenRet ?_ | refine blockNormal ?_ | refine blockExit ?_ | refine blockRet ?_ | refine roundExit ?_ | refine roundRet ?_ | refine roundExitR ?_ | refine roundRetR ?_) | ((with_reducible refine blockPass ?_ ?_); rfl) | ((with_reducible refine awp_condT ?_ ?_); rfl) | ((with_reducible refine awp_condF ?_ ?_); rfl) | (with_reducible (refine awp_condS rfl ?_ ?_); all_goals (intro hb; have hb' := hb; (try simp only [pkC] at hb'); first | (exfalso; omega) | skip)) | ((with_reducible refine awp_reg ?_); intro K hK) | ((with_reducible refine sw_guardT ?_ ?_); rfl) | ((with_reducible refine sw_guardF ?_ ?_); rfl) | (with_reducible (refine sw_guardS rfl ?_ ?_); all_goals (intro hb; have hb' := hb; (try simp only [pkC] at hb'); first | (exfalso; omega) | skip)) | ((with_reducible refine hK _ ?_); clear hK K) | (with_reducible refine and_split ?_ ?_) | ((with_reducible refine ct_id ?_); first | (refine callThen (resolve_spec_t l (usesL l[z.toNat])[k] hn) trivial ?_ ?_)) | ((with_reducible refine ctd_id ?_); first | (refine callThenD (resolve_spec_t l (usesL l[z.toNat])[k] hn) trivial ?_ ?_)) | ((with_reducible refine sw_id ?_); simp (disch := first | decide | omega) only [↓pkS, pkW, pkA, undef, capsOf, ex, St.put, St.ev, kav, gdA, opI, rawI, vbin, srcOf, avsD, acsD, AV.toD, AC.toD, AV.nw, AC.nw, AC.one, Value.oneCell', fillA, D.one, D.ones, D.sz, D.szs, Nat.reduceAdd, Nat.reduceSub, Nat.reduceLeDiff, Nat.reduceEqDiff, reduceIte, pkN, ln_acs, el_ln, getq_map, GExpr.acs_eq, GExpr.flat_eq, GExpr.agg_eq, GExpr.el, GPart.acs_eq, GPart.flat_eq, GPart.agg_eq, GPart.el, hrv]) | (first | (with_reducible rfl) | (with_reducible refine fnok_id ?_; kernel_rfl) | exact el_strs _ | exact el_ints _ | exact el_ln _ | exact el_tk _ _ | exact el_td _ _ _ | omega | (simp; done) | (simp; omega)) | ((with_reducible refine args_id ?_); simp [ArgsOk, ArgOk, argsD, argD, AC.toD, Value.oneCell', sl_flat, leaf_flat, li_flat, ls_flat, sl_agg, leaf_agg, li_agg, ls_agg, mo_t, mo_f, ln_acs, el_ln, getq_map, GExpr.acs_eq, GExpr.flat_eq, GExpr.agg_eq, GExpr.el, GPart.acs_eq, GPart.flat_eq, GPart.agg_eq, GPart.el, hrv]; done))
        all_goals first
          | (simp only [List.length_map, List.length_append, List.length_cons, List.length_nil]; omega)
          | (refine roundB (k + 1, v + 1) ?_ (show k + 1 ≤ (usesL l[z.toNat]).length by omega) (show (usesL l[z.toNat]).length - (k + 1) < (usesL l[z.toNat]).length - k by omega)
             simp [StLe', FrLe, OwnLe, BoxLe, AV.fits, AC.fits, FB, mask, hs, ln, li, hcast])
      · have hs := ruses_f l (usesL l[z.toNat]) hlk hr
        repeat' (first | (with_reducible first | refine awp_seq ?_ | refine awp_block ?_ | refine awp_skip ?_ | refine awp_exit ?_ | refine awp_ret ?_ | refine athen ?_ | refine thenExit ?_ | refine thenRet ?_ | refine blockNormal ?_ | refine blockExit ?_ | refine blockRet ?_ | refine roundExit ?_ | refine roundRet ?_ | refine roundExitR ?_ | refine roundRetR ?_) | ((with_reducible refine blockPass ?_ ?_); rfl) | ((with_reducible refine awp_condT ?_ ?_); rfl) | ((with_reducible refine awp_condF ?_ ?_); rfl) | (with_reducible (refine awp_condS rfl ?_ ?_); all_goals (intro hb; have hb' := hb; (try simp only [pkC] at hb'); first | (exfalso; omega) | skip)) | ((with_reducible refine awp_reg ?_); intro K hK) | ((with_reducible refine sw_guardT ?_ ?_); rfl) | ((with_reducible refine sw_guardF ?_ ?_); rfl) | (with_reducible (refine sw_guardS rfl ?_ ?_); all_goals (intro hb; have hb' := hb; (try simp only [pkC] at hb'); first | (exfalso; omega) | skip)) | ((with_reducible refine hK _ ?_); clear hK K) | (with_reducible refine and_split ?_ ?_) | ((with_reducible refine ct_id ?_); first | (refine callThen (resolve_spec_t l (usesL l[z.toNat])[k] hn) trivial ?_ ?_)) | ((with_reducible refine ctd_id ?_); first | (refine callThenD (resolve_spec_t l (usesL l[z.toNat])[k] hn) trivial ?_ ?_)) | ((with_reducible refine sw_id ?_); simp (disch := first | decide | omega) only [↓pkS, pkW, pkA, undef, capsOf, ex, St.put, St.ev, kav, gdA, opI, rawI, vbin, srcOf, avsD, acsD, AV.toD, AC.toD, AV.nw, AC.nw, AC.one, Value.oneCell', fillA, D.one, D.ones, D.sz, D.szs, Nat.reduceAdd, Nat.reduceSub, Nat.reduceLeDiff, Nat.reduceEqDiff, reduceIte, pkN, ln_acs, el_ln, getq_map, GExpr.acs_eq, GExpr.flat_eq, GExpr.agg_eq, GExpr.el, GPart.acs_eq, GPart.flat_eq, GPart.agg_eq, GPart.el, hrv]) | (first | (with_reducible rfl) | (with_reducible refine fnok_id ?_; kernel_rfl) | exact el_strs _ | exact el_ints _ | exact el_ln _ | exact el_tk _ _ | exact el_td _ _ _ | omega | (simp; done) | (simp; omega)) | ((with_reducible refine args_id ?_); simp [ArgsOk, ArgOk, argsD, argD, AC.toD, Value.oneCell', sl_flat, leaf_flat, li_flat, ls_flat, sl_agg, leaf_agg, li_agg, ls_agg, mo_t, mo_f, ln_acs, el_ln, getq_map, GExpr.acs_eq, GExpr.flat_eq, GExpr.agg_eq, GExpr.el, GPart.acs_eq, GPart.flat_eq, GPart.agg_eq, GPart.el, hrv]; done))
        all_goals first
          | (simp only [List.length_map, List.length_append, List.length_cons, List.length_nil]; omega)
          | (refine roundB (k + 1, v) ?_ (show k + 1 ≤ (usesL l[z.toNat]).length by omega) (show (usesL l[z.toNat]).length - (k + 1) < (usesL l[z.toNat]).length - k by omega)
             simp [StLe', FrLe, OwnLe, BoxLe, AV.fits, AC.fits, FB, mask, hs])
    · obtain rfl : k = (usesL l[z.toNat]).length := by omega
      rw [List.take_length] at hrl ⊢
      repeat' (first | (with_reducible first | refine awp_seq ?_ | refine awp_block ?_ | refine awp_skip ?_ | refine awp_exit ?_ | refine awp_ret ?_ | refine athen ?_ | refine thenExit ?_ | refine thenRet ?_ | refine blockNormal ?_ | refine blockExit ?_ | refine blockRet ?_ | refine roundExit ?_ | refine roundRet ?_ | refine roundExitR ?_ | refine roundRetR ?_) | ((with_reducible refine blockPass ?_ ?_); rfl) | ((with_reducible refine awp_condT ?_ ?_); rfl) | ((with_reducible refine awp_condF ?_ ?_); rfl) | (with_reducible (refine awp_condS rfl ?_ ?_); all_goals (intro hb; have hb' := hb; (try simp only [pkC] at hb'); first | (exfalso; omega) | skip)) | ((with_reducible refine awp_reg ?_); intro K hK) | ((with_reducible refine sw_guardT ?_ ?_); rfl) | ((with_reducible refine sw_guardF ?_ ?_); rfl) | (with_reducible (refine sw_guardS rfl ?_ ?_); all_goals (intro hb; have hb' := hb; (try simp only [pkC] at hb'); first | (exfalso; omega) | skip)) | ((with_reducible refine hK _ ?_); clear hK K) | (with_reducible refine and_split ?_ ?_) | ((with_reducible refine ct_id ?_); first | (refine callOwn (l23Set_to l.length (ruses l (usesL l[z.toNat])) (ruses_lt l _) hn (by omega)) (el_ln _) ?_ ?_)) | ((with_reducible refine sw_id ?_); simp (disch := first | decide | omega) only [↓pkS, pkW, pkA, undef, capsOf, ex, St.put, St.ev, kav, gdA, opI, rawI, vbin, srcOf, avsD, acsD, AV.toD, AC.toD, AV.nw, AC.nw, AC.one, Value.oneCell', fillA, D.one, D.ones, D.sz, D.szs, Nat.reduceAdd, Nat.reduceSub, Nat.reduceLeDiff, Nat.reduceEqDiff, reduceIte, pkN, ln_acs, el_ln, getq_map, GExpr.acs_eq, GExpr.flat_eq, GExpr.agg_eq, GExpr.el, GPart.acs_eq, GPart.flat_eq, GPart.agg_eq, GPart.el]) | (first | (with_reducible rfl) | (with_reducible refine fnok_id ?_; kernel_rfl) | exact el_strs _ | exact el_ints _ | exact el_ln _ | exact el_tk _ _ | exact el_td _ _ _ | omega | (simp; done) | (simp; omega)) | ((with_reducible refine args_id ?_); simp [ArgsOk, ArgOk, argsD, argD, AC.toD, Value.oneCell', sl_flat, leaf_flat, li_flat, ls_flat, sl_agg, leaf_agg, li_agg, ls_agg, mo_t, mo_f, ln_acs, el_ln, getq_map, GExpr.acs_eq, GExpr.flat_eq, GExpr.agg_eq, GExpr.el, GPart.acs_eq, GPart.flat_eq, GPart.agg_eq, GPart.el]; done))
      exact endOwn rfl rfl rfl rfl rfl rfl (Or.inl rfl)
def ic_du_impl : IC := (.seq (.reg false [⟨(some 4), none, .mov (.k (.slice none 0 0))⟩]) (.seq (.seq (.reg false [⟨(some 9), none, .mov (.t 1)⟩, ⟨(some 10), none, .bin .lss (.t 9) (.k (.int .i64 0))⟩, ⟨(some 11), none, .mov (.t 10)⟩, ⟨(some 12), (some (11, false)), .mov (.t 1)⟩, ⟨(some 13), (some (11, false)), .mov (.t 0)⟩, ⟨(some 14), (some (11, false)), .len false (.t 13)⟩, ⟨(some 15), (some (11, false)), .bin .geq (.t 12) (.t 14)⟩, ⟨(some 16), none, .pick (.t 11) (.k (.bool true)) (.t 15)⟩]) (.cond (.t 16) (.seq (.reg false [⟨(some 4), none, .mov (.k (.slice none 0 0))⟩]) .ret) .skip)) (.seq (.reg false [⟨(some 17), none, .brow true 3 1 0 false []⟩, ⟨(some 5), none, .mov (.t 17)⟩]) (.seq (.seq (.reg false [⟨(some 18), none, .mov (.t 0)⟩, ⟨(some 19), none, .mov (.t 1)⟩, ⟨(some 20), none, .iad 14 (.t 18) (.t 19)⟩, ⟨(some 21), none, .load 14 true (.t 20)⟩, ⟨(some 22), none, .call 56 [(.t 21)]⟩, ⟨(some 23), none, .len false (.t 22)⟩, ⟨(some 24), none, .mov (.k (.int .i64 0))⟩]) (.block 0 (.loop (.seq (.reg false [⟨(some 25), none, .bin .lss (.t 24) (.t 23)⟩]) (.seq (.cond (.t 25) .skip (.exit 0)) (.seq (.block 1 (.seq (.reg false [⟨(some 26), none, .iad 1 (.t 22) (.t 24)⟩, ⟨(some 27), none, .load 1 false (.t 26)⟩, ⟨(some 7), none, .mov (.t 27)⟩]) (.seq (.reg false [⟨(some 28), none, .mov (.t 0)⟩, ⟨(some 29), none, .mov (.t 7)⟩, ⟨(some 30), none, .call 57 [(.t 28), (.t 29)]⟩, ⟨(some 8), none, .mov (.t 30)⟩]) (.seq (.reg false [⟨(some 31), none, .mov (.t 8)⟩, ⟨(some 32), none, .bin .geq (.t 31) (.k (.int .i64 0))⟩]) (.cond (.t 32) (.reg false [⟨(some 33), none, .mov (.t 5)⟩, ⟨(some 34), none, .mov (.t 8)⟩, ⟨(some 35), none, .brow false 3 1 1 false [(.t 34)]⟩, ⟨(some 36), none, .app 3 1 (.t 33) (.t 35)⟩, ⟨(some 5), none, .mov (.t 36)⟩]) .skip))))) (.reg false [⟨(some 37), none, .bin .add (.t 24) (.k (.int .i64 1))⟩, ⟨(some 24), none, .mov (.t 37)⟩]))))))) (.seq (.reg false [⟨(some 38), none, .mov (.t 5)⟩, ⟨(some 39), none, .call 58 [(.t 38)]⟩, ⟨(some 4), none, .mov (.t 39)⟩]) .ret)))))
theorem ic_du_impl_ok : compC Tryz.prog (Tryz.f38.body.getD .skip) = some ic_du_impl := by kernel_rfl
set_option maxHeartbeats 8000000 in
theorem directUses_impl_to (l : List GPart) (z : Int) (hw : l.length + D.wts (l.map GPart.toD) ≤ 1048576) : CallsOwn Tryz.prog 38 [.sl (l.map GPart.toD), li z] ((duI l z).map ln) 3 1 := by
  have hn : l.length ≤ 1048576 := by omega
  refine calls_ownN (fn := Tryz.f38) (t := 4) (by kernel_rfl) (by kernel_rfl) (by kernel_rfl) ic_du_impl_ok ?_
  unfold ic_du_impl
  change AWP _ _ _ (st0 40 _)
  simp only [undef, stS, st0, stN, D.av, D.avN, sl_agg, leaf_agg, li_agg, ls_agg, sl_acs, leaf_acs, li_acs, ls_acs, ln_acs, el_ln, getq_map, GExpr.acs_eq, GExpr.flat_eq, GExpr.agg_eq, GExpr.el, GPart.acs_eq, GPart.flat_eq, GPart.agg_eq, GPart.el, List.map_cons, List.map_nil, List.replicate, List.cons_append, List.nil_append, List.length_cons, List.length_nil, Nat.reduceAdd, Nat.reduceSub]
  by_cases hlt0 : ¬ (0 ≤ z ∧ z.toNat < l.length)
  · have hz0 : duI l z = [] := by
      unfold duI
      split
      · have : ¬ z.toNat < l.length := by omega
        unfold du; rw [List.getElem?_eq_none (by omega)]
      · rfl
    rw [hz0]
    repeat' (first | (with_reducible first | refine awp_seq ?_ | refine awp_block ?_ | refine awp_skip ?_ | refine awp_exit ?_ | refine awp_ret ?_ | refine athen ?_ | refine thenExit ?_ | refine thenRet ?_ | refine blockNormal ?_ | refine blockExit ?_ | refine blockRet ?_ | refine roundExit ?_ | refine roundRet ?_ | refine roundExitR ?_ | refine roundRetR ?_) | ((with_reducible refine blockPass ?_ ?_); rfl) | ((with_reducible refine awp_condT ?_ ?_); rfl) | ((with_reducible refine awp_condF ?_ ?_); rfl) | (with_reducible (refine awp_condS rfl ?_ ?_); all_goals (intro hb; have hb' := hb; (try simp only [pkC] at hb'); first | (exfalso; omega) | skip)) | ((with_reducible refine awp_reg ?_); intro K hK) | ((with_reducible refine sw_guardT ?_ ?_); rfl) | ((with_reducible refine sw_guardF ?_ ?_); rfl) | (with_reducible (refine sw_guardS rfl ?_ ?_); all_goals (intro hb; have hb' := hb; (try simp only [pkC] at hb'); first | (exfalso; omega) | skip)) | ((with_reducible refine hK _ ?_); clear hK K) | (with_reducible refine and_split ?_ ?_) | ((with_reducible refine sw_id ?_); simp (disch := first | decide | omega) only [↓pkS, pkW, pkA, undef, capsOf, ex, St.put, St.ev, kav, gdA, opI, rawI, vbin, srcOf, avsD, acsD, AV.toD, AC.toD, AV.nw, AC.nw, AC.one, Value.oneCell', fillA, D.one, D.ones, D.sz, D.szs, Nat.reduceAdd, Nat.reduceSub, Nat.reduceLeDiff, Nat.reduceEqDiff, reduceIte, pkN, ln_acs, el_ln, getq_map, GExpr.acs_eq, GExpr.flat_eq, GExpr.agg_eq, GExpr.el, GPart.acs_eq, GPart.flat_eq, GPart.agg_eq, GPart.el]) | (first | (with_reducible rfl) | (with_reducible refine fnok_id ?_; kernel_rfl) | exact el_strs _ | exact el_ints _ | exact el_ln _ | exact el_tk _ _ | exact el_td _ _ _ | omega | (simp; done) | (simp; omega)) | ((with_reducible refine args_id ?_); simp [ArgsOk, ArgOk, argsD, argD, AC.toD, Value.oneCell', sl_flat, leaf_flat, li_flat, ls_flat, sl_agg, leaf_agg, li_agg, ls_agg, mo_t, mo_f, ln_acs, el_ln, getq_map, GExpr.acs_eq, GExpr.flat_eq, GExpr.agg_eq, GExpr.el, GPart.acs_eq, GPart.flat_eq, GPart.agg_eq, GPart.el]; done))
    all_goals exact endNil rfl
  · have h0 : 0 ≤ z := by omega
    have hlt : z.toNat < l.length := by omega
    have hdu : duI l z = setL l.length (ruses l (usesL l[z.toNat])) := by unfold duI; rw [if_pos h0, du_at l hlt]
    have hul := usesL_len l[z.toNat] (part_wt hw hlt)
    rw [hdu]
    repeat' (first | (with_reducible first | refine awp_seq ?_ | refine awp_block ?_ | refine awp_skip ?_ | refine awp_exit ?_ | refine awp_ret ?_ | refine athen ?_ | refine thenExit ?_ | refine thenRet ?_ | refine blockNormal ?_ | refine blockExit ?_ | refine blockRet ?_ | refine roundExit ?_ | refine roundRet ?_ | refine roundExitR ?_ | refine roundRetR ?_) | ((with_reducible refine blockPass ?_ ?_); rfl) | ((with_reducible refine awp_condT ?_ ?_); rfl) | ((with_reducible refine awp_condF ?_ ?_); rfl) | (with_reducible (refine awp_condS rfl ?_ ?_); all_goals (intro hb; have hb' := hb; (try simp only [pkC] at hb'); first | (exfalso; omega) | skip)) | ((with_reducible refine awp_reg ?_); intro K hK) | ((with_reducible refine sw_guardT ?_ ?_); rfl) | ((with_reducible refine sw_guardF ?_ ?_); rfl) | (with_reducible (refine sw_guardS rfl ?_ ?_); all_goals (intro hb; have hb' := hb; (try simp only [pkC] at hb'); first | (exfalso; omega) | skip)) | ((with_reducible refine hK _ ?_); clear hK K) | (with_reducible refine and_split ?_ ?_) | ((with_reducible refine ct_id ?_); first | (refine callThen ((usesOf_impl_to l[z.toNat] (part_wt hw hlt)).to (flat_strs' _)) trivial ?_ ?_)) | ((with_reducible refine ctd_id ?_); first | (refine callThenD ((usesOf_impl_to l[z.toNat] (part_wt hw hlt)).to (flat_strs' _)) trivial ?_ ?_)) | ((with_reducible refine sw_id ?_); simp (disch := first | decide | omega) only [↓pkS, pkW, pkA, undef, capsOf, ex, St.put, St.ev, kav, gdA, opI, rawI, vbin, srcOf, avsD, acsD, AV.toD, AC.toD, AV.nw, AC.nw, AC.one, Value.oneCell', fillA, D.one, D.ones, D.sz, D.szs, Nat.reduceAdd, Nat.reduceSub, Nat.reduceLeDiff, Nat.reduceEqDiff, reduceIte, pkN, ln_acs, el_ln, getq_map, GExpr.acs_eq, GExpr.flat_eq, GExpr.agg_eq, GExpr.el, GPart.acs_eq, GPart.flat_eq, GPart.agg_eq, GPart.el]) | (first | (with_reducible rfl) | (with_reducible refine fnok_id ?_; kernel_rfl) | exact el_strs _ | exact el_ints _ | exact el_ln _ | exact el_tk _ _ | exact el_td _ _ _ | omega | (simp; done) | (simp; omega)) | ((with_reducible refine args_id ?_); simp [ArgsOk, ArgOk, argsD, argD, AC.toD, Value.oneCell', sl_flat, leaf_flat, li_flat, ls_flat, sl_agg, leaf_agg, li_agg, ls_agg, mo_t, mo_f, ln_acs, el_ln, getq_map, GExpr.acs_eq, GExpr.flat_eq, GExpr.agg_eq, GExpr.el, GPart.acs_eq, GPart.flat_eq, GPart.agg_eq, GPart.el]; done))
    refine awp_loopB (X := Nat × Nat) (fun q => [.k, .d, .d, .d, .d, .v (.c false [.own 0 q.2]), .d, .d, .d, .d, .d, .d, .d, .d, .d, .d, .d, .d, .d, .d, .d, .d, .k, .k, .v (.c false [.raw (.int .i64 (q.1 : Nat))]), .d, .d, .d, .d, .d, .d, .d, .d, .d, .d, .d, .d, .d, .d, .d]) (fun q => [⟨(ruses l ((usesL l[z.toNat]).take q.1)).map ln, 3, 1, q.2, true⟩]) (fun q bs => bs) (fun q => q.1 ≤ (usesL l[z.toNat]).length) (fun q => (usesL l[z.toNat]).length - q.1) (0, 0) (Nat.zero_le _) ?_ ?_
    · simp [StLe', FrLe, OwnLe, BoxLe, AV.fits, AC.fits, FB, mask, ruses]
    rintro ⟨k, v⟩ hk
    have hk' : k ≤ (usesL l[z.toNat]).length := hk
    clear hk
    have hrl := ruses_len l (usesL l[z.toNat]) k
    simp only [FB, mask]
    by_cases hlk : k < (usesL l[z.toNat]).length
    · have hrv : resV (defsTo l (usesL l[z.toNat])[k] l.length) = rv l (usesL l[z.toNat])[k] := rfl
      by_cases hr : 0 ≤ rv l (usesL l[z.toNat])[k]
      · have hs := ruses_t l (usesL l[z.toNat]) hlk hr
        have hlv := rv_lt l _ hr
        have hcast : ((rv l (usesL l[z.toNat])[k]).toNat : Int) = rv l (usesL l[z.toNat])[k] := by omega
        repeat' (first | (with_reducible first | refine awp_seq ?_ | refine awp_block ?_ | refine awp_skip ?_ | refine awp_exit ?_ | refine awp_ret ?_ | refine athen ?_ | refine thenExit ?_ | refine thenRet ?_ | refine blockNormal ?_ | refine blockExit ?_ | refine blockRet ?_ | refine roundExit ?_ | refine roundRet ?_ | refine roundExitR ?_ | refine roundRetR ?_) | ((with_reducible refine blockPass ?_ ?_); rfl) | ((with_reducible refine awp_condT ?_ ?_); rfl) | ((with_reducible refine awp_condF ?_ ?_); rfl) | (with_reducible (refine awp_condS rfl ?_ ?_); all_goals (intro hb; have hb' := hb; (try simp only [pkC] at hb'); first | (exfalso; omega) | skip)) | ((with_reducible refine awp_reg ?_); intro K hK) | ((with_reducible refine sw_guardT ?_ ?_); rfl) | ((with_reducible refine sw_guardF ?_ ?_); rfl) | (with_reducible (refine sw_guardS rfl ?_ ?_); all_goals (intro hb; have hb' := hb; (try simp only [pkC] at hb'); first | (exfalso; omega) | skip)) | ((with_reducible refine hK _ ?_); clear hK K) | (with_reducible refine and_split ?_ ?_) | ((with_reducible refine ct_id ?_); first | (refine callThen (resolve_impl_t l (usesL l[z.toNat])[k] hn) trivial ?_ ?_)) | ((with_reducible refine ctd_id ?_); first | (refine callThenD (resolve_impl_t l (usesL l[z.toNat])[k] hn) trivial ?_ ?_)) | ((with_reducible refine sw_id ?_); simp (disch := first | decide | omega) only [↓pkS, pkW, pkA, undef, capsOf, ex, St.put, St.ev, kav, gdA, opI, rawI, vbin, srcOf, avsD, acsD, AV.toD, AC.toD, AV.nw, AC.nw, AC.one, Value.oneCell', fillA, D.one, D.ones, D.sz, D.szs, Nat.reduceAdd, Nat.reduceSub, Nat.reduceLeDiff, Nat.reduceEqDiff, reduceIte, pkN, ln_acs, el_ln, getq_map, GExpr.acs_eq, GExpr.flat_eq, GExpr.agg_eq, GExpr.el, GPart.acs_eq, GPart.flat_eq, GPart.agg_eq, GPart.el, hrv]) | (first | (with_reducible rfl) | (with_reducible refine fnok_id ?_; kernel_rfl) | exact el_strs _ | exact el_ints _ | exact el_ln _ | exact el_tk _ _ | exact el_td _ _ _ | omega | (simp; done) | (simp; omega)) | ((with_reducible refine args_id ?_); simp [ArgsOk, ArgOk, argsD, argD, AC.toD, Value.oneCell', sl_flat, leaf_flat, li_flat, ls_flat, sl_agg, leaf_agg, li_agg, ls_agg, mo_t, mo_f, ln_acs, el_ln, getq_map, GExpr.acs_eq, GExpr.flat_eq, GExpr.agg_eq, GExpr.el, GPart.acs_eq, GPart.flat_eq, GPart.agg_eq, GPart.el, hrv]; done))
        all_goals first
          | (simp only [List.length_map, List.length_append, List.length_cons, List.length_nil]; omega)
          | (refine roundB (k + 1, v + 1) ?_ (show k + 1 ≤ (usesL l[z.toNat]).length by omega) (show (usesL l[z.toNat]).length - (k + 1) < (usesL l[z.toNat]).length - k by omega)
             simp [StLe', FrLe, OwnLe, BoxLe, AV.fits, AC.fits, FB, mask, hs, ln, li, hcast])
      · have hs := ruses_f l (usesL l[z.toNat]) hlk hr
        repeat' (first | (with_reducible first | refine awp_seq ?_ | refine awp_block ?_ | refine awp_skip ?_ | refine awp_exit ?_ | refine awp_ret ?_ | refine athen ?_ | refine thenExit ?_ | refine thenRet ?_ | refine blockNormal ?_ | refine blockExit ?_ | refine blockRet ?_ | refine roundExit ?_ | refine roundRet ?_ | refine roundExitR ?_ | refine roundRetR ?_) | ((with_reducible refine blockPass ?_ ?_); rfl) | ((with_reducible refine awp_condT ?_ ?_); rfl) | ((with_reducible refine awp_condF ?_ ?_); rfl) | (with_reducible (refine awp_condS rfl ?_ ?_); all_goals (intro hb; have hb' := hb; (try simp only [pkC] at hb'); first | (exfalso; omega) | skip)) | ((with_reducible refine awp_reg ?_); intro K hK) | ((with_reducible refine sw_guardT ?_ ?_); rfl) | ((with_reducible refine sw_guardF ?_ ?_); rfl) | (with_reducible (refine sw_guardS rfl ?_ ?_); all_goals (intro hb; have hb' := hb; (try simp only [pkC] at hb'); first | (exfalso; omega) | skip)) | ((with_reducible refine hK _ ?_); clear hK K) | (with_reducible refine and_split ?_ ?_) | ((with_reducible refine ct_id ?_); first | (refine callThen (resolve_impl_t l (usesL l[z.toNat])[k] hn) trivial ?_ ?_)) | ((with_reducible refine ctd_id ?_); first | (refine callThenD (resolve_impl_t l (usesL l[z.toNat])[k] hn) trivial ?_ ?_)) | ((with_reducible refine sw_id ?_); simp (disch := first | decide | omega) only [↓pkS, pkW, pkA, undef, capsOf, ex, St.put, St.ev, kav, gdA, opI, rawI, vbin, srcOf, avsD, acsD, AV.toD, AC.toD, AV.nw, AC.nw, AC.one, Value.oneCell', fillA, D.one, D.ones, D.sz, D.szs, Nat.reduceAdd, Nat.reduceSub, Nat.reduceLeDiff, Nat.reduceEqDiff, reduceIte, pkN, ln_acs, el_ln, getq_map, GExpr.acs_eq, GExpr.flat_eq, GExpr.agg_eq, GExpr.el, GPart.acs_eq, GPart.flat_eq, GPart.agg_eq, GPart.el, hrv]) | (first | (with_reducible rfl) | (with_reducible refine fnok_id ?_; kernel_rfl) | exact el_strs _ | exact el_ints _ | exact el_ln _ | exact el_tk _ _ | exact el_td _ _ _ | omega | (simp; done) | (simp; omega)) | ((with_reducible refine args_id ?_); simp [ArgsOk, ArgOk, argsD, argD, AC.toD, Value.oneCell', sl_flat, leaf_flat, li_flat, ls_flat, sl_agg, leaf_agg, li_agg, ls_agg, mo_t, mo_f, ln_acs, el_ln, getq_map, GExpr.acs_eq, GExpr.flat_eq, GExpr.agg_eq, GExpr.el, GPart.acs_eq, GPart.flat_eq, GPart.agg_eq, GPart.el, hrv]; done))
        all_goals first
          | (simp only [List.length_map, List.length_append, List.length_cons, List.length_nil]; omega)
          | (refine roundB (k + 1, v) ?_ (show k + 1 ≤ (usesL l[z.toNat]).length by omega) (show (usesL l[z.toNat]).length - (k + 1) < (usesL l[z.toNat]).length - k by omega)
             simp [StLe', FrLe, OwnLe, BoxLe, AV.fits, AC.fits, FB, mask, hs])
    · obtain rfl : k = (usesL l[z.toNat]).length := by omega
      rw [List.take_length] at hrl ⊢
      repeat' (first | (with_reducible first | refine awp_seq ?_ | refine awp_block ?_ | refine awp_skip ?_ | refine awp_exit ?_ | refine awp_ret ?_ | refine athen ?_ | refine thenExit ?_ | refine thenRet ?_ | refine blockNormal ?_ | refine blockExit ?_ | refine blockRet ?_ | refine roundExit ?_ | refine roundRet ?_ | refine roundExitR ?_ | refine roundRetR ?_) | ((with_reducible refine blockPass ?_ ?_); rfl) | ((with_reducible refine awp_condT ?_ ?_); rfl) | ((with_reducible refine awp_condF ?_ ?_); rfl) | (with_reducible (refine awp_condS rfl ?_ ?_); all_goals (intro hb; have hb' := hb; (try simp only [pkC] at hb'); first | (exfalso; omega) | skip)) | ((with_reducible refine awp_reg ?_); intro K hK) | ((with_reducible refine sw_guardT ?_ ?_); rfl) | ((with_reducible refine sw_guardF ?_ ?_); rfl) | (with_reducible (refine sw_guardS rfl ?_ ?_); all_goals (intro hb; have hb' := hb; (try simp only [pkC] at hb'); first | (exfalso; omega) | skip)) | ((with_reducible refine hK _ ?_); clear hK K) | (with_reducible refine and_split ?_ ?_) | ((with_reducible refine ct_id ?_); first | (refine callOwn (sorted_to l.length (ruses l (usesL l[z.toNat])) (ruses_lt l _) hn (by omega)) (el_ln _) ?_ ?_)) | ((with_reducible refine sw_id ?_); simp (disch := first | decide | omega) only [↓pkS, pkW, pkA, undef, capsOf, ex, St.put, St.ev, kav, gdA, opI, rawI, vbin, srcOf, avsD, acsD, AV.toD, AC.toD, AV.nw, AC.nw, AC.one, Value.oneCell', fillA, D.one, D.ones, D.sz, D.szs, Nat.reduceAdd, Nat.reduceSub, Nat.reduceLeDiff, Nat.reduceEqDiff, reduceIte, pkN, ln_acs, el_ln, getq_map, GExpr.acs_eq, GExpr.flat_eq, GExpr.agg_eq, GExpr.el, GPart.acs_eq, GPart.flat_eq, GPart.agg_eq, GPart.el]) | (first | (with_reducible rfl) | (with_reducible refine fnok_id ?_; kernel_rfl) | exact el_strs _ | exact el_ints _ | exact el_ln _ | exact el_tk _ _ | exact el_td _ _ _ | omega | (simp; done) | (simp; omega)) | ((with_reducible refine args_id ?_); simp [ArgsOk, ArgOk, argsD, argD, AC.toD, Value.oneCell', sl_flat, leaf_flat, li_flat, ls_flat, sl_agg, leaf_agg, li_agg, ls_agg, mo_t, mo_f, ln_acs, el_ln, getq_map, GExpr.acs_eq, GExpr.flat_eq, GExpr.agg_eq, GExpr.el, GPart.acs_eq, GPart.flat_eq, GPart.agg_eq, GPart.el]; done))
      exact endOwn rfl rfl rfl rfl rfl rfl (Or.inl rfl)
theorem directUses_spec (l : List GPart) (z : Int) (r : List Int) (hr : (duI l z).map Int.ofNat = r) (fp : List Nat) (v : Value) (w : World) (hS : Sl w (l.map GPart.toD) fp v) (hw : l.length + D.wts (l.map GPart.toD) ≤ 1048576) : Calls Tryz.prog 30 #[v, .int .i64 z] w (TosPost (r.map li) w) := by
  subst hr
  rw [List.map_map]
  exact of_own (directUses_spec_to l z hw) (flat_ln _) (vs := [v, .int .i64 z]) ⟨rd_of_sl hS, rd_of_leaf _, trivial⟩
theorem directUses_impl (l : List GPart) (z : Int) (r : List Int) (hr : (duI l z).map Int.ofNat = r) (fp : List Nat) (v : Value) (w : World) (hS : Sl w (l.map GPart.toD) fp v) (hw : l.length + D.wts (l.map GPart.toD) ≤ 1048576) : Calls Tryz.prog 38 #[v, .int .i64 z] w (TosPost (r.map li) w) := by
  subst hr
  rw [List.map_map]
  exact of_own (directUses_impl_to l z hw) (flat_ln _) (vs := [v, .int .i64 z]) ⟨rd_of_sl hS, rd_of_leaf _, trivial⟩
end Go.Proofs.YtnfamcepojpkjaaGreat

namespace Go.Proofs.YtnfamcepojpkjaaGreat
open Go.RowKit
set_option linter.unusedSimpArgs false
set_option linter.unusedVariables false
def nrI (l : List GPart) (b : Bool) (z : Int) : List Nat := if b then usI l z else duI l z
theorem nrI_t (l : List GPart) (z : Int) : nrI l true z = usI l z := rfl
theorem nrI_f (l : List GPart) (z : Int) : nrI l false z = duI l z := rfl
theorem usI_lt (l : List GPart) (z : Int) : ∀ x ∈ usI l z, x < l.length := fun x h => (mem_setN.1 h).1
theorem usI_len (l : List GPart) (z : Int) : (usI l z).length ≤ l.length := setN_len _ _
theorem duI_sorted (l : List GPart) (z : Int) : (duI l z).Pairwise (· < ·) := by
  unfold duI du
  split
  · split
    · exact setN_sorted _ _
    · exact List.Pairwise.nil
  · exact List.Pairwise.nil
theorem nrI_lt (l : List GPart) (b : Bool) (z : Int) : ∀ x ∈ nrI l b z, x < l.length := by cases b; exact duI_lt l z; exact usI_lt l z
theorem nrI_len (l : List GPart) (b : Bool) (z : Int) : (nrI l b z).length ≤ l.length := by cases b; exact duI_len l z; exact usI_len l z
theorem nrI_sorted (l : List GPart) (b : Bool) (z : Int) : (nrI l b z).Pairwise (· < ·) := by cases b; exact duI_sorted l z; exact setN_sorted _ _
/-! ### How many steps there are -/
theorem sumF_congr_g {p : Nat → Bool} {g h : Nat → Nat} : ∀ {n : Nat}, (∀ x, x < n → g x = h x) → sumF p g n = sumF p h n
  | 0, _ => rfl
  | n + 1, e => by simp only [sumF]; rw [sumF_congr_g (fun x hx => e x (by omega)), e n (by omega)]
theorem sumF_mono_g {p : Nat → Bool} {g h : Nat → Nat} : ∀ {n : Nat}, (∀ x, x < n → g x ≤ h x) → sumF p g n ≤ sumF p h n
  | 0, _ => Nat.le_refl _
  | n + 1, e => by
    simp only [sumF]
    have := sumF_mono_g (p := p) (g := g) (h := h) (n := n) (fun x hx => e x (by omega))
    have := e n (by omega)
    split <;> omega
theorem sumF_add {g h : Nat → Nat} : ∀ (n : Nat), sumF (fun _ => true) (fun x => g x + h x) n = sumF (fun _ => true) g n + sumF (fun _ => true) h n
  | 0 => rfl
  | n + 1 => by simp only [sumF, if_true]; rw [sumF_add n]; omega
theorem sumF_snoc (l : List GPart) (x : GPart) (g : GPart → Nat) : ∀ n, n ≤ l.length → sumF (fun _ => true) (fun i => match (l ++ [x])[i]? with | some y => g y | none => 0) n = sumF (fun _ => true) (fun i => match l[i]? with | some y => g y | none => 0) n := fun n hn => sumF_congr_g fun i hi => by
  rw [List.getElem?_append_left (by omega)]
theorem wts_app : ∀ (a b : List D), D.wts (a ++ b) = D.wts a + D.wts b
  | [], b => by simp [D.wts]
  | x :: a, b => by simp only [List.cons_append, D.wts, wts_app a b]; omega
theorem sumF_wts (l : List GPart) : ∀ k, k ≤ l.length → sumF (fun _ => true) (fun i => match l[i]? with | some y => y.toD.wt + 1 | none => 0) k = k + D.wts ((l.take k).map GPart.toD)
  | 0, _ => by simp [sumF, D.wts]
  | k + 1, h => by
    have hk : k < l.length := by omega
    rw [List.take_succ_eq_append_getElem hk, List.map_append, wts_app]
    simp only [sumF, if_true, List.getElem?_eq_getElem hk, List.map_cons, List.map_nil, D.wts]
    rw [sumF_wts l k (by omega)]
    omega
theorem setL_len (n : Nat) (l : List Nat) : (setL n l).length ≤ l.length := by
  have h1 : ∀ (l : List Nat) (n : Nat), (setL n l).length ≤ l.length := by
    intro l
    induction l with
    | nil => intro n; simp [setL_nil]
    | cons x l ih =>
      intro n
      have h2 := lacks_len (nodup_sorted (setN_sorted n fun k => (x :: l).contains k)) (n := n) (fun y hy => (mem_setN.1 hy).1)
      have h3 := lacks_len (nodup_sorted (setN_sorted n fun k => l.contains k)) (n := n) (fun y hy => (mem_setN.1 hy).1)
      have h4 := ih n
      unfold setL at h4 ⊢
      have hle : sumF (lacks (setN n fun k => l.contains k)) (fun _ => 1) n ≤ sumF (lacks (setN n fun k => (x :: l).contains k)) (fun _ => 1) n + 1 := by
        have : ∀ m, sumF (lacks (setN n fun k => l.contains k)) (fun _ => 1) m ≤ sumF (lacks (setN n fun k => (x :: l).contains k)) (fun _ => 1) m + (if x < m then 1 else 0) := by
          intro m
          induction m with
          | zero => simp [sumF]
          | succ m ihm =>
            simp only [sumF]
            have key : m ≠ x → lacks (setN n fun k => l.contains k) m = lacks (setN n fun k => (x :: l).contains k) m := by
              intro hne
              unfold lacks
              congr 1
              rw [Bool.eq_iff_iff, List.contains_iff_mem, List.contains_iff_mem, mem_setN, mem_setN]
              simp [hne]
            by_cases e : m = x
            · subst e
              rw [if_neg (Nat.lt_irrefl _)] at ihm
              rw [if_pos (Nat.lt_succ_self _)]
              split <;> split <;> omega
            · rw [key e]
              generalize hce : (if lacks (setN n fun k => (x :: l).contains k) m = true then 1 else 0) = cc
              by_cases h : x < m
              · rw [if_pos h] at ihm; rw [if_pos (by omega)]; omega
              · rw [if_neg h] at ihm; rw [if_neg (by omega)]; omega
        have := this n
        split at this <;> omega
      simp only [List.length_cons]
      omega
  exact h1 l n
theorem du_tot (l : List GPart) (hw : l.length + D.wts (l.map GPart.toD) ≤ 1048576) : sumF (fun _ => true) (fun x => (du l x).length) l.length ≤ 1048576 := by
  have h1 : sumF (fun _ => true) (fun x => (du l x).length) l.length ≤ sumF (fun _ => true) (fun i => match l[i]? with | some y => y.toD.wt + 1 | none => 0) l.length := by
    refine sumF_mono_g fun x hx => ?_
    rw [du_at l hx, List.getElem?_eq_getElem hx]
    have h2 := setL_len l.length (ruses l (usesL l[x]))
    have h3 := ruses_len l (usesL l[x]) (usesL l[x]).length
    rw [List.take_length] at h3
    have h4 := usesL_wt l[x]
    show _ ≤ l[x].toD.wt + 1
    omega
  rw [sumF_wts l _ (Nat.le_refl _), List.take_length] at h1
  omega
/-- Counted by rows or by columns. -/
theorem sumF_swap (q : Nat → Nat → Bool) (n : Nat) : ∀ m, sumF (fun _ => true) (fun x => (setN n fun k => q k x).length) m = sumF (fun _ => true) (fun k => (setN m fun x => q k x).length) n := by
  intro m
  induction m with
  | zero =>
    simp only [sumF]
    have : ∀ n, sumF (fun _ => true) (fun k => (setN 0 fun x => q k x).length) n = 0 := fun n => by
      induction n with
      | zero => rfl
      | succ n ih => simp only [sumF, ih]; simp [setN]
    rw [this]
  | succ m ih =>
    simp only [sumF, if_true]
    rw [ih]
    have h1 : ∀ n, (setN n fun k => q k m).length = sumF (fun _ => true) (fun k => if q k m then 1 else 0) n := fun n => by
      induction n with
      | zero => rfl
      | succ n ih2 => rw [setN_succ, List.length_append, ih2]; simp only [sumF, if_true]; split <;> rfl
    rw [h1, ← sumF_add]
    refine sumF_congr_g fun k hk => ?_
    rw [setN_succ, List.length_append]
    split <;> rfl
theorem sorted_setL {n : Nat} {l : List Nat} (hs : l.Pairwise (· < ·)) (hb : ∀ x ∈ l, x < n) : setN n (fun x => l.contains x) = l := (setL_eq hs (fun x => ⟨fun h => ⟨hb x h, h⟩, fun h => h.2⟩)).symm
theorem du_sorted (l : List GPart) (k : Nat) : (du l k).Pairwise (· < ·) := by have := duI_sorted l (k : Int); rwa [duI_nat] at this
theorem us_tot (l : List GPart) (hw : l.length + D.wts (l.map GPart.toD) ≤ 1048576) : sumF (fun _ => true) (fun x => (usI l (x : Int)).length) l.length ≤ 1048576 := by
  have h1 := sumF_swap (fun k x => (du l k).contains x) l.length l.length
  have h2 : sumF (fun _ => true) (fun x => (usI l (x : Int)).length) l.length = sumF (fun _ => true) (fun x => (setN l.length fun k => (du l k).contains x).length) l.length := sumF_congr_g fun x hx => by
    unfold usI
    congr 2
    funext k
    exact hasI_nat
  have h3 : sumF (fun _ => true) (fun k => (setN l.length fun x => (du l k).contains x).length) l.length = sumF (fun _ => true) (fun x => (du l x).length) l.length := sumF_congr_g fun k hk => by
    rw [sorted_setL (du_sorted l k) (du_lt l k)]
  rw [h2, h1, h3]
  exact du_tot l hw
theorem nr_tot (l : List GPart) (b : Bool) (hw : l.length + D.wts (l.map GPart.toD) ≤ 1048576) : sumF (fun _ => true) (fun x => (nrI l b (x : Int)).length) l.length ≤ 1048576 := by
  cases b
  · simp only [nrI_f, duI_nat]; exact du_tot l hw
  · exact us_tot l hw
/-! ### The reference -/
/-! ### The program -/
def ic_allUsesC : IC := (.seq (.reg false [⟨(some 3), none, .mov (.k (.slice none 0 0))⟩]) (.seq (.reg false [⟨(some 4), none, .load 1 false (.t 1)⟩, ⟨(some 5), none, .mov (.t 0)⟩, ⟨(some 6), none, .call 38 [(.t 4), (.t 5)]⟩, ⟨(some 3), none, .mov (.t 6)⟩]) .ret))
theorem ic_allUsesC_ok : compC Tryz.prog (Tryz.f68.body.getD .skip) = some ic_allUsesC := by kernel_rfl
theorem allUsesC_s (l : List GPart) (z : Int) (os : List Own) (hw : l.length + D.wts (l.map GPart.toD) ≤ 1048576) :
    CallsS Tryz.prog 68 [.c false [.raw (.int .i64 z)], .bptr 0 0] os [[.sl false (l.map GPart.toD)]] (.c false [.own os.length 0]) (os ++ [⟨(nrI l false z).map ln, 3, 1, 0, true⟩]) [[.sl false (l.map GPart.toD)]] := by
  have hd := directUses_impl_to l z hw
  refine calls_s (fn := Tryz.f68) (rs := [.tmp 3]) (by kernel_rfl) (by kernel_rfl) (by kernel_rfl) ic_allUsesC_ok (by simp) (by simp) ?_
  unfold ic_allUsesC
  change AWPn _ _ _ _ (stS 7 _ _ _)
  simp only [undef, stS, st0, stN, D.av, D.avN, sl_agg, leaf_agg, li_agg, ls_agg, sl_acs, leaf_acs, li_acs, ls_acs, ln_acs, el_ln, getq_map, GPart.acs_eq, GPart.flat_eq, GPart.agg_eq, GPart.el, List.map_cons, List.map_nil, List.replicate, List.cons_append, List.nil_append, List.length_cons, List.length_nil, Nat.reduceAdd, Nat.reduceSub]
  repeat' (first | (with_reducible first | refine awp_seq ?_ | refine awp_block ?_ | refine awp_skip ?_ | refine awp_exit ?_ | refine awp_ret ?_ | refine athen ?_ | refine thenExit ?_ | refine thenRet ?_ | refine blockNormal ?_ | refine blockExit ?_ | refine blockRet ?_ | refine roundExit ?_ | refine roundRet ?_ | refine roundExitR ?_ | refine roundRetR ?_) | ((with_reducible refine blockPass ?_ ?_); rfl) | ((with_reducible refine awp_condT ?_ ?_); rfl) | ((with_reducible refine awp_condF ?_ ?_); rfl) | (with_reducible (refine awp_condS rfl ?_ ?_); all_goals (intro hb; have hb' := hb; (try simp only [pkC] at hb'); first | (exfalso; omega) | skip)) | ((with_reducible refine awp_reg ?_); intro K hK) | ((with_reducible refine sw_guardT ?_ ?_); rfl) | ((with_reducible refine sw_guardF ?_ ?_); rfl) | (with_reducible (refine sw_guardS rfl ?_ ?_); all_goals (intro hb; have hb' := hb; (try simp only [pkC] at hb'); first | (exfalso; omega) | skip)) | ((with_reducible refine hK _ ?_); clear hK K) | (with_reducible refine and_split ?_ ?_) | ((with_reducible refine ct_id ?_); first | (refine callOwn hd (el_ln _) ?_ ?_)) | ((with_reducible refine sw_id ?_); simp (disch := first | decide | omega) only [↓pkS, pkW, pkA, undef, capsOf, ex, St.put, St.ev, kav, gdA, opI, rawI, vbin, srcOf, avsD, acsD, AV.toD, AC.toD, AV.nw, AC.nw, AC.one, Value.oneCell', fillA, D.one, D.ones, D.sz, D.szs, Nat.reduceAdd, Nat.reduceSub, Nat.reduceLeDiff, Nat.reduceEqDiff, reduceIte, pkN, ln_acs, el_ln, getq_map, GPart.acs_eq, GPart.flat_eq, GPart.agg_eq, GPart.el]) | (first | (with_reducible rfl) | (with_reducible refine fnok_id ?_; kernel_rfl) | exact el_strs _ | exact el_ints _ | exact el_ln _ | exact el_tk _ _ | exact el_td _ _ _ | omega | (simp; done) | (simp; omega)) | ((with_reducible refine args_id ?_); simp [ArgsOk, ArgOk, argsD, argD, AC.toD, Value.oneCell', sl_flat, leaf_flat, li_flat, ls_flat, sl_agg, leaf_agg, li_agg, ls_agg, mo_t, mo_f, ln_acs, el_ln, getq_map, GPart.acs_eq, GPart.flat_eq, GPart.agg_eq, GPart.el]; done))
  exact endRet ⟨ownLe_refl _, ⟨rfl, trivial⟩, by simp [AC.fits], rfl, by simp [AV.fits, AC.fits]⟩
def ic_reach : IC := (.seq (.reg false [⟨(some 4), none, .mov (.k (.slice none 0 0))⟩]) (.seq (.reg false [⟨(some 8), none, .brow true 3 1 0 false []⟩, ⟨(some 5), none, .mov (.t 8)⟩]) (.seq (.reg false [⟨(some 9), none, .mov (.t 1)⟩, ⟨(some 10), none, .mov (.t 0)⟩, ⟨(some 11), none, .callv (.t 9) [(.t 10)]⟩, ⟨(some 6), none, .mov (.t 11)⟩]) (.seq (.block 0 (.loop (.seq (.seq (.reg false [⟨(some 12), none, .mov (.t 6)⟩, ⟨(some 13), none, .len false (.t 12)⟩, ⟨(some 14), none, .bin .gtr (.t 13) (.k (.int .i64 0))⟩]) (.cond (.t 14) .skip (.exit 0))) (.block 1 (.seq (.reg false [⟨(some 15), none, .mov (.t 6)⟩, ⟨(some 16), none, .iad 1 (.t 15) (.k (.int .i64 0))⟩, ⟨(some 17), none, .load 1 false (.t 16)⟩, ⟨(some 7), none, .mov (.t 17)⟩]) (.seq (.reg false [⟨(some 18), none, .mov (.t 6)⟩, ⟨(some 19), none, .lsl 1 (.t 18) (some (.k (.int .i64 1))) none⟩, ⟨(some 6), none, .mov (.t 19)⟩]) (.seq (.reg false [⟨(some 20), none, .mov (.t 5)⟩, ⟨(some 21), none, .mov (.t 7)⟩, ⟨(some 22), none, .call 18 [(.t 20), (.t 21)]⟩, ⟨(some 23), none, .not (.t 22)⟩]) (.cond (.t 23) (.seq (.reg false [⟨(some 24), none, .mov (.t 5)⟩, ⟨(some 25), none, .mov (.t 7)⟩, ⟨(some 26), none, .brow false 3 1 1 false [(.t 25)]⟩, ⟨(some 27), none, .app 3 1 (.t 24) (.t 26)⟩, ⟨(some 5), none, .mov (.t 27)⟩]) (.reg false [⟨(some 28), none, .mov (.t 6)⟩, ⟨(some 29), none, .mov (.t 1)⟩, ⟨(some 30), none, .mov (.t 7)⟩, ⟨(some 31), none, .callv (.t 29) [(.t 30)]⟩, ⟨(some 32), none, .app 3 1 (.t 28) (.t 31)⟩, ⟨(some 6), none, .mov (.t 32)⟩])) .skip)))))))) (.seq (.reg false [⟨(some 33), none, .mov (.t 5)⟩, ⟨(some 34), none, .call 58 [(.t 33)]⟩, ⟨(some 4), none, .mov (.t 34)⟩]) .ret)))))
theorem ic_reach_ok : compC Tryz.prog (Tryz.f67.body.getD .skip) = some ic_reach := by kernel_rfl
set_option maxHeartbeats 8000000 in
theorem reach_s (c : Nat) (hc : fnOk Tryz.prog c = true) (L : List D) (n : Nat) (f : Int → List Nat) (hlt : ∀ z, ∀ x ∈ f z, x < n) (hlen : ∀ z, (f z).length ≤ n) (hn : n ≤ 1048576) (hT : sumF (fun _ => true) (fun x => (f (x : Int)).length) n ≤ 1048576)
    (hstep : ∀ (z : Int) (os : List Own), CallsS Tryz.prog c [.c false [.raw (.int .i64 z)], .bptr 0 0] os [[.sl false L]] (.c false [.own os.length 0]) (os ++ [⟨(f z).map ln, 3, 1, 0, true⟩]) [[.sl false L]]) (z : Int) :
    CallsS Tryz.prog 67 [.c false [.raw (.int .i64 z)], .c false [.cl c [0]]] [] [[.sl false L]] (.c false [.own 0 0]) [⟨(cl n f z).map ln, 3, 1, 0, true⟩] [[.sl false L]] := by
  refine calls_sR (fn := Tryz.f67) (t := 4) (by kernel_rfl) (by kernel_rfl) (by kernel_rfl) ic_reach_ok (by simp) (fun pk => ⟨rfl, trivial⟩) (by simp [AC.fits]) ?_
  unfold ic_reach
  change AWPn _ _ _ _ (stS 35 _ _ _)
  have hfz := hlen z
  simp only [undef, stS, st0, stN, D.av, D.avN, sl_agg, leaf_agg, li_agg, ls_agg, sl_acs, leaf_acs, li_acs, ls_acs, ln_acs, el_ln, getq_map, GPart.acs_eq, GPart.flat_eq, GPart.agg_eq, GPart.el, List.map_cons, List.map_nil, List.replicate, List.cons_append, List.nil_append, List.length_cons, List.length_nil, Nat.reduceAdd, Nat.reduceSub]
  repeat' (first | (with_reducible first | refine awp_seq ?_ | refine awp_block ?_ | refine awp_skip ?_ | refine awp_exit ?_ | refine awp_ret ?_ | refine athen ?_ | refine thenExit ?_ | refine thenRet ?_ | refine blockNormal ?_ | refine blockExit ?_ | refine blockRet ?_ | refine roundExit ?_ | refine roundRet ?_ | refine roundExitR ?_ | refine roundRetR ?_) | ((with_reducible refine blockPass ?_ ?_); rfl) | ((with_reducible refine awp_condT ?_ ?_); rfl) | ((with_reducible refine awp_condF ?_ ?_); rfl) | (with_reducible (refine awp_condS rfl ?_ ?_); all_goals (intro hb; have hb' := hb; (try simp only [pkC] at hb'); first | (exfalso; omega) | skip)) | ((with_reducible refine awp_reg ?_); intro K hK) | ((with_reducible refine sw_guardT ?_ ?_); rfl) | ((with_reducible refine sw_guardF ?_ ?_); rfl) | (with_reducible (refine sw_guardS rfl ?_ ?_); all_goals (intro hb; have hb' := hb; (try simp only [pkC] at hb'); first | (exfalso; omega) | skip)) | ((with_reducible refine hK _ ?_); clear hK K) | (with_reducible refine and_split ?_ ?_) | ((with_reducible refine cv_id ?_); first | (refine callV hc (hstep z _) ?_)) | ((with_reducible refine cvd_id ?_); first | (refine callVD hc (hstep z _) ?_)) | ((with_reducible refine sw_id ?_); simp (disch := first | decide | omega) only [↓pkS, pkW, pkA, undef, capsOf, ex, St.put, St.ev, kav, gdA, opI, rawI, vbin, srcOf, avsD, acsD, AV.toD, AC.toD, AV.nw, AC.nw, AC.one, Value.oneCell', fillA, D.one, D.ones, D.sz, D.szs, Nat.reduceAdd, Nat.reduceSub, Nat.reduceLeDiff, Nat.reduceEqDiff, reduceIte, pkN, ln_acs, el_ln, getq_map, GPart.acs_eq, GPart.flat_eq, GPart.agg_eq, GPart.el]) | (first | (with_reducible rfl) | (with_reducible refine fnok_id ?_; kernel_rfl) | exact el_strs _ | exact el_ints _ | exact el_ln _ | exact el_tk _ _ | exact el_td _ _ _ | omega | (simp; done) | (simp; omega)) | ((with_reducible refine args_id ?_); simp [ArgsOk, ArgOk, argsD, argD, AC.toD, Value.oneCell', sl_flat, leaf_flat, li_flat, ls_flat, sl_agg, leaf_agg, li_agg, ls_agg, mo_t, mo_f, ln_acs, el_ln, getq_map, GPart.acs_eq, GPart.flat_eq, GPart.agg_eq, GPart.el]; done))
  refine awp_loopBN (X := List Nat × List Nat × Nat × Nat) (fun q => [.d, .k, .d, .d, .d, .v (.c false [.own 0 q.2.2.1]), .v (.c false [.own 1 q.2.2.2]), .d, .d, .d, .d, .d, .d, .d, .d, .d, .d, .d, .d, .d, .d, .d, .d, .d, .d, .d, .d, .d, .d, .d, .d, .d, .d, .d, .d]) (fun q => [⟨q.1.map ln, 3, 1, q.2.2.1, true⟩, ⟨q.2.1.map ln, 3, 1, q.2.2.2, true⟩]) (fun q bs => bs) (fun q => TodoInv n f z q.1 q.2.1) (fun q => todoM n f q.1 q.2.1) ([], f z, 0, 0) (TodoInv.start hlt) (by intro q; simp) ?_ ?_
  · simp [StLe', FrLe, OwnLe, BoxLe, AV.fits, AC.fits, FB, mask]
  rintro ⟨o, t, v1, v2⟩ hi
  have hI : TodoInv n f z o t := hi
  clear hi
  have hol := nodup_len hI.nd hI.lt
  have htl := hI.t
  simp only [FB, mask]
  by_cases h0 : 0 < t.length
  · have htk : (t.map ln).take t.length = t.map ln := List.take_of_length_le (by simp)
    have hmd : (t.map ln).drop 1 = (t.drop 1).map ln := by rw [List.map_drop]
    have hdl : (t.drop 1).length = t.length - 1 := List.length_drop
    cases hh : hasI o ((t[0] : Nat) : Int) with
    | true =>
      have hcc : o.contains t[0] = true := by rw [← hasI_nat]; exact hh
      repeat' (first | (with_reducible first | refine awp_seq ?_ | refine awp_block ?_ | refine awp_skip ?_ | refine awp_exit ?_ | refine awp_ret ?_ | refine athen ?_ | refine thenExit ?_ | refine thenRet ?_ | refine blockNormal ?_ | refine blockExit ?_ | refine blockRet ?_ | refine roundExit ?_ | refine roundRet ?_ | refine roundExitR ?_ | refine roundRetR ?_) | ((with_reducible refine blockPass ?_ ?_); rfl) | ((with_reducible refine awp_condT ?_ ?_); rfl) | ((with_reducible refine awp_condF ?_ ?_); rfl) | (with_reducible (refine awp_condS rfl ?_ ?_); all_goals (intro hb; have hb' := hb; (try simp only [pkC] at hb'); first | (exfalso; omega) | skip)) | ((with_reducible refine awp_reg ?_); intro K hK) | ((with_reducible refine sw_guardT ?_ ?_); rfl) | ((with_reducible refine sw_guardF ?_ ?_); rfl) | (with_reducible (refine sw_guardS rfl ?_ ?_); all_goals (intro hb; have hb' := hb; (try simp only [pkC] at hb'); first | (exfalso; omega) | skip)) | ((with_reducible refine hK _ ?_); clear hK K) | (with_reducible refine and_split ?_ ?_) | (with_reducible refine lslMove ?_) | ((with_reducible refine ct_id ?_); first | (refine callThen (hasInt_to o ((t[0] : Nat) : Int) (by omega)) trivial ?_ ?_)) | ((with_reducible refine ctd_id ?_); first | (refine callThenD (hasInt_to o ((t[0] : Nat) : Int) (by omega)) trivial ?_ ?_)) | ((with_reducible refine cv_id ?_); first | (refine callV hc (hstep ((t[0] : Nat) : Int) _) ?_)) | ((with_reducible refine cvd_id ?_); first | (refine callVD hc (hstep ((t[0] : Nat) : Int) _) ?_)) | ((with_reducible refine sw_id ?_); simp (disch := first | decide | omega) only [↓pkS, pkW, pkA, undef, capsOf, ex, St.put, St.ev, kav, gdA, opI, rawI, vbin, srcOf, avsD, acsD, AV.toD, AC.toD, AV.nw, AC.nw, AC.one, Value.oneCell', fillA, D.one, D.ones, D.sz, D.szs, Nat.reduceAdd, Nat.reduceSub, Nat.reduceLeDiff, Nat.reduceEqDiff, reduceIte, pkN, ln_acs, el_ln, getq_map, GPart.acs_eq, GPart.flat_eq, GPart.agg_eq, GPart.el, hh, htk, hmd]) | (first | (with_reducible rfl) | (with_reducible refine fnok_id ?_; kernel_rfl) | exact el_strs _ | exact el_ints _ | exact el_ln _ | exact el_tk _ _ | exact el_td _ _ _ | omega | (simp; done) | (simp; omega)) | ((with_reducible refine args_id ?_); simp [ArgsOk, ArgOk, argsD, argD, AC.toD, Value.oneCell', sl_flat, leaf_flat, li_flat, ls_flat, sl_agg, leaf_agg, li_agg, ls_agg, mo_t, mo_f, ln_acs, el_ln, getq_map, GPart.acs_eq, GPart.flat_eq, GPart.agg_eq, GPart.el, hh, htk, hmd]; done))
      refine roundB (o, t.drop 1, v1, v2 + 1) ?_ (hI.skip h0 hcc) (todoM_skip h0)
      simp [StLe', FrLe, OwnLe, BoxLe, AV.fits, AC.fits, FB, mask]
    | false =>
      have hcc : o.contains t[0] = false := by rw [← hasI_nat]; exact hh
      have hp := hI.put hlt h0 hcc
      have hpt := hp.t
      rw [List.length_append, hdl] at hpt
      repeat' (first | (with_reducible first | refine awp_seq ?_ | refine awp_block ?_ | refine awp_skip ?_ | refine awp_exit ?_ | refine awp_ret ?_ | refine athen ?_ | refine thenExit ?_ | refine thenRet ?_ | refine blockNormal ?_ | refine blockExit ?_ | refine blockRet ?_ | refine roundExit ?_ | refine roundRet ?_ | refine roundExitR ?_ | refine roundRetR ?_) | ((with_reducible refine blockPass ?_ ?_); rfl) | ((with_reducible refine awp_condT ?_ ?_); rfl) | ((with_reducible refine awp_condF ?_ ?_); rfl) | (with_reducible (refine awp_condS rfl ?_ ?_); all_goals (intro hb; have hb' := hb; (try simp only [pkC] at hb'); first | (exfalso; omega) | skip)) | ((with_reducible refine awp_reg ?_); intro K hK) | ((with_reducible refine sw_guardT ?_ ?_); rfl) | ((with_reducible refine sw_guardF ?_ ?_); rfl) | (with_reducible (refine sw_guardS rfl ?_ ?_); all_goals (intro hb; have hb' := hb; (try simp only [pkC] at hb'); first | (exfalso; omega) | skip)) | ((with_reducible refine hK _ ?_); clear hK K) | (with_reducible refine and_split ?_ ?_) | (with_reducible refine lslMove ?_) | ((with_reducible refine ct_id ?_); first | (refine callThen (hasInt_to o ((t[0] : Nat) : Int) (by omega)) trivial ?_ ?_)) | ((with_reducible refine ctd_id ?_); first | (refine callThenD (hasInt_to o ((t[0] : Nat) : Int) (by omega)) trivial ?_ ?_)) | ((with_reducible refine cv_id ?_); first | (refine callV hc (hstep ((t[0] : Nat) : Int) _) ?_)) | ((with_reducible refine cvd_id ?_); first | (refine callVD hc (hstep ((t[0] : Nat) : Int) _) ?_)) | ((with_reducible refine sw_id ?_); simp (disch := first | decide | omega) only [↓pkS, pkW, pkA, undef, capsOf, ex, St.put, St.ev, kav, gdA, opI, rawI, vbin, srcOf, avsD, acsD, AV.toD, AC.toD, AV.nw, AC.nw, AC.one, Value.oneCell', fillA, D.one, D.ones, D.sz, D.szs, Nat.reduceAdd, Nat.reduceSub, Nat.reduceLeDiff, Nat.reduceEqDiff, reduceIte, pkN, ln_acs, el_ln, getq_map, GPart.acs_eq, GPart.flat_eq, GPart.agg_eq, GPart.el, hh, htk, hmd]) | (first | (with_reducible rfl) | (with_reducible refine fnok_id ?_; kernel_rfl) | exact el_strs _ | exact el_ints _ | exact el_ln _ | exact el_tk _ _ | exact el_td _ _ _ | omega | (simp; done) | (simp; omega)) | ((with_reducible refine args_id ?_); simp [ArgsOk, ArgOk, argsD, argD, AC.toD, Value.oneCell', sl_flat, leaf_flat, li_flat, ls_flat, sl_agg, leaf_agg, li_agg, ls_agg, mo_t, mo_f, ln_acs, el_ln, getq_map, GPart.acs_eq, GPart.flat_eq, GPart.agg_eq, GPart.el, hh, htk, hmd]; done))
      all_goals first
        | (simp only [List.length_map, List.length_append, List.length_cons, List.length_nil, List.length_drop]; omega)
        | (refine roundB (o ++ [t[0]], t.drop 1 ++ f ((t[0] : Nat) : Int), v1 + 1, v2 + 1 + 1) ?_ hp (todoM_put hI h0 hcc)
           simp [StLe', FrLe, OwnLe, BoxLe, AV.fits, AC.fits, FB, mask, ln, li])
  · obtain rfl : t = [] := List.eq_nil_of_length_eq_zero (by omega)
    have hfin := hI.fin
    rw [← hfin]
    repeat' (first | (with_reducible first | refine awp_seq ?_ | refine awp_block ?_ | refine awp_skip ?_ | refine awp_exit ?_ | refine awp_ret ?_ | refine athen ?_ | refine thenExit ?_ | refine thenRet ?_ | refine blockNormal ?_ | refine blockExit ?_ | refine blockRet ?_ | refine roundExit ?_ | refine roundRet ?_ | refine roundExitR ?_ | refine roundRetR ?_) | ((with_reducible refine blockPass ?_ ?_); rfl) | ((with_reducible refine awp_condT ?_ ?_); rfl) | ((with_reducible refine awp_condF ?_ ?_); rfl) | (with_reducible (refine awp_condS rfl ?_ ?_); all_goals (intro hb; have hb' := hb; (try simp only [pkC] at hb'); first | (exfalso; omega) | skip)) | ((with_reducible refine awp_reg ?_); intro K hK) | ((with_reducible refine sw_guardT ?_ ?_); rfl) | ((with_reducible refine sw_guardF ?_ ?_); rfl) | (with_reducible (refine sw_guardS rfl ?_ ?_); all_goals (intro hb; have hb' := hb; (try simp only [pkC] at hb'); first | (exfalso; omega) | skip)) | ((with_reducible refine hK _ ?_); clear hK K) | (with_reducible refine and_split ?_ ?_) | ((with_reducible refine ct_id ?_); first | (refine callOwn (sorted_to n o hI.lt hn (by omega)) (el_ln _) ?_ ?_)) | ((with_reducible refine sw_id ?_); simp (disch := first | decide | omega) only [↓pkS, pkW, pkA, undef, capsOf, ex, St.put, St.ev, kav, gdA, opI, rawI, vbin, srcOf, avsD, acsD, AV.toD, AC.toD, AV.nw, AC.nw, AC.one, Value.oneCell', fillA, D.one, D.ones, D.sz, D.szs, Nat.reduceAdd, Nat.reduceSub, Nat.reduceLeDiff, Nat.reduceEqDiff, reduceIte, pkN, ln_acs, el_ln, getq_map, GPart.acs_eq, GPart.flat_eq, GPart.agg_eq, GPart.el]) | (first | (with_reducible rfl) | (with_reducible refine fnok_id ?_; kernel_rfl) | exact el_strs _ | exact el_ints _ | exact el_ln _ | exact el_tk _ _ | exact el_td _ _ _ | omega | (simp; done) | (simp; omega)) | ((with_reducible refine args_id ?_); simp [ArgsOk, ArgOk, argsD, argD, AC.toD, Value.oneCell', sl_flat, leaf_flat, li_flat, ls_flat, sl_agg, leaf_agg, li_agg, ls_agg, mo_t, mo_f, ln_acs, el_ln, getq_map, GPart.acs_eq, GPart.flat_eq, GPart.agg_eq, GPart.el]; done))
    exact endRet ⟨2, 0, rfl, rfl, rfl, rfl⟩
def ic_allUses_impl : IC := (.seq (.reg false [⟨(some 2), none, .box (.t 0)⟩, ⟨(some 4), none, .mov (.k (.slice none 0 0))⟩]) (.seq (.reg false [⟨(some 5), none, .mov (.t 1)⟩, ⟨(some 6), none, .mkf 68 [(.t 2)]⟩, ⟨(some 7), none, .call 67 [(.t 5), (.t 6)]⟩, ⟨(some 4), none, .mov (.t 7)⟩]) .ret))
theorem ic_allUses_impl_ok : compC Tryz.prog (Tryz.f55.body.getD .skip) = some ic_allUses_impl := by kernel_rfl
theorem allUses_impl_to (l : List GPart) (z : Int) (hw : l.length + D.wts (l.map GPart.toD) ≤ 1048576) : CallsOwn Tryz.prog 55 [.sl (l.map GPart.toD), li z] ((cl l.length (nrI l false) z).map ln) 3 1 := by
  have ha := reach_s 68 (by kernel_rfl) (l.map GPart.toD) l.length (nrI l false) (nrI_lt l false) (nrI_len l false) (by omega) (nr_tot l false hw) (fun z os => allUsesC_s l z os hw) z
  refine calls_own (fn := Tryz.f55) (t := 4) (by kernel_rfl) (by kernel_rfl) (by kernel_rfl) ic_allUses_impl_ok ?_
  unfold ic_allUses_impl
  change AWP _ _ _ (st0 8 _)
  simp only [undef, stS, st0, stN, D.av, D.avN, sl_agg, leaf_agg, li_agg, ls_agg, sl_acs, leaf_acs, li_acs, ls_acs, ln_acs, el_ln, getq_map, GPart.acs_eq, GPart.flat_eq, GPart.agg_eq, GPart.el, List.map_cons, List.map_nil, List.replicate, List.cons_append, List.nil_append, List.length_cons, List.length_nil, Nat.reduceAdd, Nat.reduceSub]
  repeat' (first | (with_reducible first | refine awp_seq ?_ | refine awp_block ?_ | refine awp_skip ?_ | refine awp_exit ?_ | refine awp_ret ?_ | refine athen ?_ | refine thenExit ?_ | refine thenRet ?_ | refine blockNormal ?_ | refine blockExit ?_ | refine blockRet ?_ | refine roundExit ?_ | refine roundRet ?_ | refine roundExitR ?_ | refine roundRetR ?_) | ((with_reducible refine blockPass ?_ ?_); rfl) | ((with_reducible refine awp_condT ?_ ?_); rfl) | ((with_reducible refine awp_condF ?_ ?_); rfl) | (with_reducible (refine awp_condS rfl ?_ ?_); all_goals (intro hb; have hb' := hb; (try simp only [pkC] at hb'); first | (exfalso; omega) | skip)) | ((with_reducible refine awp_reg ?_); intro K hK) | ((with_reducible refine sw_guardT ?_ ?_); rfl) | ((with_reducible refine sw_guardF ?_ ?_); rfl) | (with_reducible (refine sw_guardS rfl ?_ ?_); all_goals (intro hb; have hb' := hb; (try simp only [pkC] at hb'); first | (exfalso; omega) | skip)) | ((with_reducible refine hK _ ?_); clear hK K) | (with_reducible refine and_split ?_ ?_) | ((with_reducible refine ct_id ?_); first | (refine callS ha ?_)) | ((with_reducible refine sw_id ?_); simp (disch := first | decide | omega) only [↓pkS, pkW, pkA, undef, capsOf, ex, St.put, St.ev, kav, gdA, opI, rawI, vbin, srcOf, avsD, acsD, AV.toD, AC.toD, AV.nw, AC.nw, AC.one, Value.oneCell', fillA, D.one, D.ones, D.sz, D.szs, Nat.reduceAdd, Nat.reduceSub, Nat.reduceLeDiff, Nat.reduceEqDiff, reduceIte, pkN, ln_acs, el_ln, getq_map, GPart.acs_eq, GPart.flat_eq, GPart.agg_eq, GPart.el]) | (first | (with_reducible rfl) | (with_reducible refine fnok_id ?_; kernel_rfl) | exact el_strs _ | exact el_ints _ | exact el_ln _ | exact el_tk _ _ | exact el_td _ _ _ | omega | (simp; done) | (simp; omega)) | ((with_reducible refine args_id ?_); simp [ArgsOk, ArgOk, argsD, argD, AC.toD, Value.oneCell', sl_flat, leaf_flat, li_flat, ls_flat, sl_agg, leaf_agg, li_agg, ls_agg, mo_t, mo_f, ln_acs, el_ln, getq_map, GPart.acs_eq, GPart.flat_eq, GPart.agg_eq, GPart.el]; done))
  exact endRet ⟨0, _, _, rfl, rfl, rfl, rfl, rfl, rfl, Or.inl rfl⟩
theorem allUses_impl (l : List GPart) (z : Int) (r : List Int) (hr : (cl l.length (nrI l false) z).map Int.ofNat = r) (fp : List Nat) (v : Value) (w : World) (hS : Sl w (l.map GPart.toD) fp v) (hw : l.length + D.wts (l.map GPart.toD) ≤ 1048576) : Calls Tryz.prog 55 #[v, .int .i64 z] w (TosPost (r.map li) w) := by
  subst hr
  rw [List.map_map]
  exact of_own (allUses_impl_to l z hw) (flat_ln _) (vs := [v, .int .i64 z]) ⟨rd_of_sl hS, rd_of_leaf _, trivial⟩
end Go.Proofs.YtnfamcepojpkjaaGreat

namespace Go.Proofs.YtnfamcepojpkjaaGreat
open Go.RowKit
set_option linter.unusedSimpArgs false
set_option linter.unusedVariables false
/-! ### Whether a number is in a list of numbers of any kind -/
def hasZ (l : List Int) (z : Int) : Bool := l.any fun x => x == z
theorem hasZ_iff {l : List Int} {z : Int} : hasZ l z = true ↔ z ∈ l := by simp [hasZ]
theorem hasZ_take (l : List Int) (z : Int) {k : Nat} (h : k < l.length) : hasZ (l.take (k + 1)) z = (hasZ (l.take k) z || (l[k] == z)) := by
  unfold hasZ
  rw [List.take_succ_eq_append_getElem h, List.any_append]
  simp
theorem hasZ_at {l : List Int} {z : Int} {k : Nat} (h : k < l.length) (e : (l[k] == z) = true) : hasZ l z = true := hasZ_iff.2 ((show l[k] = z by simpa using e) ▸ List.getElem_mem h)
theorem el_li (l : List Int) : El 1 (l.map li) := el_ints l
def lnz (l : List Nat) : List Int := l.map Int.ofNat
theorem lnz_ln (l : List Nat) : (lnz l).map li = l.map ln := by unfold lnz; rw [List.map_map]; rfl
set_option maxHeartbeats 2000000 in
theorem l1HasIntZ_to (l : List Int) (z : Int) (hn : l.length ≤ 4194304) : CallsTo Tryz.prog 32 [.sl (l.map li), li z] (.c false [.raw (.bool (hasZ l z))]) := by
  refine calls_one (fn := Tryz.f32) (t := 4) (by kernel_rfl) (by kernel_rfl) (by kernel_rfl) ic_l1HasInt_ok ?_
  unfold ic_l1HasInt
  change AWP _ _ _ (st0 18 _)
  simp only [undef, stS, st0, stN, D.av, D.avN, sl_agg, leaf_agg, li_agg, ls_agg, sl_acs, leaf_acs, li_acs, ls_acs, ln_acs, el_ln, getq_map, GPart.acs_eq, GPart.flat_eq, GPart.agg_eq, GPart.el, List.map_cons, List.map_nil, List.replicate, List.cons_append, List.nil_append, List.length_cons, List.length_nil, Nat.reduceAdd, Nat.reduceSub]
  repeat' (first | (with_reducible first | refine awp_seq ?_ | refine awp_block ?_ | refine awp_skip ?_ | refine awp_exit ?_ | refine awp_ret ?_ | refine athen ?_ | refine thenExit ?_ | refine thenRet ?_ | refine blockNormal ?_ | refine blockExit ?_ | refine blockRet ?_ | refine roundExit ?_ | refine roundRet ?_ | refine roundExitR ?_ | refine roundRetR ?_) | ((with_reducible refine blockPass ?_ ?_); rfl) | ((with_reducible refine awp_condT ?_ ?_); rfl) | ((with_reducible refine awp_condF ?_ ?_); rfl) | (with_reducible (refine awp_condS rfl ?_ ?_); all_goals (intro hb; have hb' := hb; (try simp only [pkC] at hb'); first | (exfalso; omega) | skip)) | ((with_reducible refine awp_reg ?_); intro K hK) | ((with_reducible refine sw_guardT ?_ ?_); rfl) | ((with_reducible refine sw_guardF ?_ ?_); rfl) | (with_reducible (refine sw_guardS rfl ?_ ?_); all_goals (intro hb; have hb' := hb; (try simp only [pkC] at hb'); first | (exfalso; omega) | skip)) | ((with_reducible refine hK _ ?_); clear hK K) | (with_reducible refine and_split ?_ ?_) | ((with_reducible refine sw_id ?_); simp (disch := first | decide | omega) only [↓pkS, pkW, pkA, undef, capsOf, ex, St.put, St.ev, kav, gdA, opI, rawI, vbin, srcOf, avsD, acsD, AV.toD, AC.toD, AV.nw, AC.nw, AC.one, Value.oneCell', fillA, D.one, D.ones, D.sz, D.szs, Nat.reduceAdd, Nat.reduceSub, Nat.reduceLeDiff, Nat.reduceEqDiff, reduceIte, pkN, ln_acs, el_ln, getq_map, GPart.acs_eq, GPart.flat_eq, GPart.agg_eq, GPart.el]) | (first | (with_reducible rfl) | (with_reducible refine fnok_id ?_; kernel_rfl) | exact el_strs _ | exact el_ints _ | exact el_ln _ | exact el_tk _ _ | exact el_td _ _ _ | omega | (simp; done) | (simp; omega)) | ((with_reducible refine args_id ?_); simp [ArgsOk, ArgOk, argsD, argD, AC.toD, Value.oneCell', sl_flat, leaf_flat, li_flat, ls_flat, sl_agg, leaf_agg, li_agg, ls_agg, mo_t, mo_f, ln_acs, el_ln, getq_map, GPart.acs_eq, GPart.flat_eq, GPart.agg_eq, GPart.el]; done))
  refine awp_loopB (X := Nat) (fun q => [.k, .k, .d, .d, .d, .v (.c false [.raw (.int .i64 (q : Nat))]), .d, .d, .d, .d, .d, .d, .d, .d, .d, .d, .d, .d]) (fun q => []) (fun q bs => []) (fun q => q ≤ l.length ∧ hasZ (l.take q) z = false) (fun q => l.length - q) 0 ⟨Nat.zero_le _, by simp [hasZ]⟩ ?_ ?_
  · simp [StLe', FrLe, OwnLe, BoxLe, AV.fits, AC.fits, FB, mask]
  rintro k ⟨hk, hf⟩
  simp only [FB, mask]
  by_cases hlt : k < l.length
  · cases he : (l[k] == z) with
    | true =>
      have ht := hasZ_at hlt he
      repeat' (first | (with_reducible first | refine awp_seq ?_ | refine awp_block ?_ | refine awp_skip ?_ | refine awp_exit ?_ | refine awp_ret ?_ | refine athen ?_ | refine thenExit ?_ | refine thenRet ?_ | refine blockNormal ?_ | refine blockExit ?_ | refine blockRet ?_ | refine roundExit ?_ | refine roundRet ?_ | refine roundExitR ?_ | refine roundRetR ?_) | ((with_reducible refine blockPass ?_ ?_); rfl) | ((with_reducible refine awp_condT ?_ ?_); rfl) | ((with_reducible refine awp_condF ?_ ?_); rfl) | (with_reducible (refine awp_condS rfl ?_ ?_); all_goals (intro hb; have hb' := hb; (try simp only [pkC] at hb'); first | (exfalso; omega) | skip)) | ((with_reducible refine awp_reg ?_); intro K hK) | ((with_reducible refine sw_guardT ?_ ?_); rfl) | ((with_reducible refine sw_guardF ?_ ?_); rfl) | (with_reducible (refine sw_guardS rfl ?_ ?_); all_goals (intro hb; have hb' := hb; (try simp only [pkC] at hb'); first | (exfalso; omega) | skip)) | ((with_reducible refine hK _ ?_); clear hK K) | (with_reducible refine and_split ?_ ?_) | ((with_reducible refine sw_id ?_); simp (disch := first | decide | omega) only [↓pkS, pkW, pkA, undef, capsOf, ex, St.put, St.ev, kav, gdA, opI, rawI, vbin, srcOf, avsD, acsD, AV.toD, AC.toD, AV.nw, AC.nw, AC.one, Value.oneCell', fillA, D.one, D.ones, D.sz, D.szs, Nat.reduceAdd, Nat.reduceSub, Nat.reduceLeDiff, Nat.reduceEqDiff, reduceIte, pkN, ln_acs, el_ln, getq_map, GPart.acs_eq, GPart.flat_eq, GPart.agg_eq, GPart.el, he]) | (first | (with_reducible rfl) | (with_reducible refine fnok_id ?_; kernel_rfl) | exact el_strs _ | exact el_ints _ | exact el_ln _ | exact el_tk _ _ | exact el_td _ _ _ | omega | (simp; done) | (simp; omega)) | ((with_reducible refine args_id ?_); simp [ArgsOk, ArgOk, argsD, argD, AC.toD, Value.oneCell', sl_flat, leaf_flat, li_flat, ls_flat, sl_agg, leaf_agg, li_agg, ls_agg, mo_t, mo_f, ln_acs, el_ln, getq_map, GPart.acs_eq, GPart.flat_eq, GPart.agg_eq, GPart.el, he]; done))
      exact endRet ⟨_, rfl, by rw [ht]; rfl, trivial⟩
    | false =>
      have ht := hasZ_take l z hlt
      rw [hf, he] at ht
      repeat' (first | (with_reducible first | refine awp_seq ?_ | refine awp_block ?_ | refine awp_skip ?_ | refine awp_exit ?_ | refine awp_ret ?_ | refine athen ?_ | refine thenExit ?_ | refine thenRet ?_ | refine blockNormal ?_ | refine blockExit ?_ | refine blockRet ?_ | refine roundExit ?_ | refine roundRet ?_ | refine roundExitR ?_ | refine roundRetR ?_) | ((with_reducible refine blockPass ?_ ?_); rfl) | ((with_reducible refine awp_condT ?_ ?_); rfl) | ((with_reducible refine awp_condF ?_ ?_); rfl) | (with_reducible (refine awp_condS rfl ?_ ?_); all_goals (intro hb; have hb' := hb; (try simp only [pkC] at hb'); first | (exfalso; omega) | skip)) | ((with_reducible refine awp_reg ?_); intro K hK) | ((with_reducible refine sw_guardT ?_ ?_); rfl) | ((with_reducible refine sw_guardF ?_ ?_); rfl) | (with_reducible (refine sw_guardS rfl ?_ ?_); all_goals (intro hb; have hb' := hb; (try simp only [pkC] at hb'); first | (exfalso; omega) | skip)) | ((with_reducible refine hK _ ?_); clear hK K) | (with_reducible refine and_split ?_ ?_) | ((with_reducible refine sw_id ?_); simp (disch := first | decide | omega) only [↓pkS, pkW, pkA, undef, capsOf, ex, St.put, St.ev, kav, gdA, opI, rawI, vbin, srcOf, avsD, acsD, AV.toD, AC.toD, AV.nw, AC.nw, AC.one, Value.oneCell', fillA, D.one, D.ones, D.sz, D.szs, Nat.reduceAdd, Nat.reduceSub, Nat.reduceLeDiff, Nat.reduceEqDiff, reduceIte, pkN, ln_acs, el_ln, getq_map, GPart.acs_eq, GPart.flat_eq, GPart.agg_eq, GPart.el, he]) | (first | (with_reducible rfl) | (with_reducible refine fnok_id ?_; kernel_rfl) | exact el_strs _ | exact el_ints _ | exact el_ln _ | exact el_tk _ _ | exact el_td _ _ _ | omega | (simp; done) | (simp; omega)) | ((with_reducible refine args_id ?_); simp [ArgsOk, ArgOk, argsD, argD, AC.toD, Value.oneCell', sl_flat, leaf_flat, li_flat, ls_flat, sl_agg, leaf_agg, li_agg, ls_agg, mo_t, mo_f, ln_acs, el_ln, getq_map, GPart.acs_eq, GPart.flat_eq, GPart.agg_eq, GPart.el, he]; done))
      refine roundB (k + 1) ?_ ⟨by omega, ht⟩ (show l.length - (k + 1) < l.length - k by omega)
      simp [StLe', FrLe, OwnLe, BoxLe, AV.fits, AC.fits, FB, mask]
  · obtain rfl : k = l.length := by omega
    rw [List.take_length] at hf
    repeat' (first | (with_reducible first | refine awp_seq ?_ | refine awp_block ?_ | refine awp_skip ?_ | refine awp_exit ?_ | refine awp_ret ?_ | refine athen ?_ | refine thenExit ?_ | refine thenRet ?_ | refine blockNormal ?_ | refine blockExit ?_ | refine blockRet ?_ | refine roundExit ?_ | refine roundRet ?_ | refine roundExitR ?_ | refine roundRetR ?_) | ((with_reducible refine blockPass ?_ ?_); rfl) | ((with_reducible refine awp_condT ?_ ?_); rfl) | ((with_reducible refine awp_condF ?_ ?_); rfl) | (with_reducible (refine awp_condS rfl ?_ ?_); all_goals (intro hb; have hb' := hb; (try simp only [pkC] at hb'); first | (exfalso; omega) | skip)) | ((with_reducible refine awp_reg ?_); intro K hK) | ((with_reducible refine sw_guardT ?_ ?_); rfl) | ((with_reducible refine sw_guardF ?_ ?_); rfl) | (with_reducible (refine sw_guardS rfl ?_ ?_); all_goals (intro hb; have hb' := hb; (try simp only [pkC] at hb'); first | (exfalso; omega) | skip)) | ((with_reducible refine hK _ ?_); clear hK K) | (with_reducible refine and_split ?_ ?_) | ((with_reducible refine sw_id ?_); simp (disch := first | decide | omega) only [↓pkS, pkW, pkA, undef, capsOf, ex, St.put, St.ev, kav, gdA, opI, rawI, vbin, srcOf, avsD, acsD, AV.toD, AC.toD, AV.nw, AC.nw, AC.one, Value.oneCell', fillA, D.one, D.ones, D.sz, D.szs, Nat.reduceAdd, Nat.reduceSub, Nat.reduceLeDiff, Nat.reduceEqDiff, reduceIte, pkN, ln_acs, el_ln, getq_map, GPart.acs_eq, GPart.flat_eq, GPart.agg_eq, GPart.el]) | (first | (with_reducible rfl) | (with_reducible refine fnok_id ?_; kernel_rfl) | exact el_strs _ | exact el_ints _ | exact el_ln _ | exact el_tk _ _ | exact el_td _ _ _ | omega | (simp; done) | (simp; omega)) | ((with_reducible refine args_id ?_); simp [ArgsOk, ArgOk, argsD, argD, AC.toD, Value.oneCell', sl_flat, leaf_flat, li_flat, ls_flat, sl_agg, leaf_agg, li_agg, ls_agg, mo_t, mo_f, ln_acs, el_ln, getq_map, GPart.acs_eq, GPart.flat_eq, GPart.agg_eq, GPart.el]; done))
    exact endRet ⟨_, rfl, by rw [hf]; rfl, trivial⟩
set_option maxHeartbeats 2000000 in
theorem hasIntZ_to (l : List Int) (z : Int) (hn : l.length ≤ 4194304) : CallsTo Tryz.prog 18 [.sl (l.map li), li z] (.c false [.raw (.bool (hasZ l z))]) := by
  refine calls_one (fn := Tryz.f18) (t := 4) (by kernel_rfl) (by kernel_rfl) (by kernel_rfl) ic_hasInt_ok ?_
  unfold ic_hasInt
  change AWP _ _ _ (st0 17 _)
  simp only [undef, stS, st0, stN, D.av, D.avN, sl_agg, leaf_agg, li_agg, ls_agg, sl_acs, leaf_acs, li_acs, ls_acs, ln_acs, el_ln, getq_map, GPart.acs_eq, GPart.flat_eq, GPart.agg_eq, GPart.el, List.map_cons, List.map_nil, List.replicate, List.cons_append, List.nil_append, List.length_cons, List.length_nil, Nat.reduceAdd, Nat.reduceSub]
  repeat' (first | (with_reducible first | refine awp_seq ?_ | refine awp_block ?_ | refine awp_skip ?_ | refine awp_exit ?_ | refine awp_ret ?_ | refine athen ?_ | refine thenExit ?_ | refine thenRet ?_ | refine blockNormal ?_ | refine blockExit ?_ | refine blockRet ?_ | refine roundExit ?_ | refine roundRet ?_ | refine roundExitR ?_ | refine roundRetR ?_) | ((with_reducible refine blockPass ?_ ?_); rfl) | ((with_reducible refine awp_condT ?_ ?_); rfl) | ((with_reducible refine awp_condF ?_ ?_); rfl) | (with_reducible (refine awp_condS rfl ?_ ?_); all_goals (intro hb; have hb' := hb; (try simp only [pkC] at hb'); first | (exfalso; omega) | skip)) | ((with_reducible refine awp_reg ?_); intro K hK) | ((with_reducible refine sw_guardT ?_ ?_); rfl) | ((with_reducible refine sw_guardF ?_ ?_); rfl) | (with_reducible (refine sw_guardS rfl ?_ ?_); all_goals (intro hb; have hb' := hb; (try simp only [pkC] at hb'); first | (exfalso; omega) | skip)) | ((with_reducible refine hK _ ?_); clear hK K) | (with_reducible refine and_split ?_ ?_) | ((with_reducible refine sw_id ?_); simp (disch := first | decide | omega) only [↓pkS, pkW, pkA, undef, capsOf, ex, St.put, St.ev, kav, gdA, opI, rawI, vbin, srcOf, avsD, acsD, AV.toD, AC.toD, AV.nw, AC.nw, AC.one, Value.oneCell', fillA, D.one, D.ones, D.sz, D.szs, Nat.reduceAdd, Nat.reduceSub, Nat.reduceLeDiff, Nat.reduceEqDiff, reduceIte, pkN, ln_acs, el_ln, getq_map, GPart.acs_eq, GPart.flat_eq, GPart.agg_eq, GPart.el]) | (first | (with_reducible rfl) | (with_reducible refine fnok_id ?_; kernel_rfl) | exact el_strs _ | exact el_ints _ | exact el_ln _ | exact el_tk _ _ | exact el_td _ _ _ | omega | (simp; done) | (simp; omega)) | ((with_reducible refine args_id ?_); simp [ArgsOk, ArgOk, argsD, argD, AC.toD, Value.oneCell', sl_flat, leaf_flat, li_flat, ls_flat, sl_agg, leaf_agg, li_agg, ls_agg, mo_t, mo_f, ln_acs, el_ln, getq_map, GPart.acs_eq, GPart.flat_eq, GPart.agg_eq, GPart.el]; done))
  refine awp_loopB (X := Nat) (fun q => [.d, .k, .d, .d, .d, .d, .d, .k, .k, .v (.c false [.raw (.int .i64 (q : Nat))]), .d, .d, .d, .d, .d, .d, .d]) (fun q => []) (fun q bs => []) (fun q => q ≤ l.length ∧ hasZ (l.take q) z = false) (fun q => l.length - q) 0 ⟨Nat.zero_le _, by simp [hasZ]⟩ ?_ ?_
  · simp [StLe', FrLe, OwnLe, BoxLe, AV.fits, AC.fits, FB, mask]
  rintro k ⟨hk, hf⟩
  simp only [FB, mask]
  by_cases hlt : k < l.length
  · cases he : (l[k] == z) with
    | true =>
      have ht := hasZ_at hlt he
      repeat' (first | (with_reducible first | refine awp_seq ?_ | refine awp_block ?_ | refine awp_skip ?_ | refine awp_exit ?_ | refine awp_ret ?_ | refine athen ?_ | refine thenExit ?_ | refine thenRet ?_ | refine blockNormal ?_ | refine blockExit ?_ | refine blockRet ?_ | refine roundExit ?_ | refine roundRet ?_ | refine roundExitR ?_ | refine roundRetR ?_) | ((with_reducible refine blockPass ?_ ?_); rfl) | ((with_reducible refine awp_condT ?_ ?_); rfl) | ((with_reducible refine awp_condF ?_ ?_); rfl) | (with_reducible (refine awp_condS rfl ?_ ?_); all_goals (intro hb; have hb' := hb; (try simp only [pkC] at hb'); first | (exfalso; omega) | skip)) | ((with_reducible refine awp_reg ?_); intro K hK) | ((with_reducible refine sw_guardT ?_ ?_); rfl) | ((with_reducible refine sw_guardF ?_ ?_); rfl) | (with_reducible (refine sw_guardS rfl ?_ ?_); all_goals (intro hb; have hb' := hb; (try simp only [pkC] at hb'); first | (exfalso; omega) | skip)) | ((with_reducible refine hK _ ?_); clear hK K) | (with_reducible refine and_split ?_ ?_) | ((with_reducible refine sw_id ?_); simp (disch := first | decide | omega) only [↓pkS, pkW, pkA, undef, capsOf, ex, St.put, St.ev, kav, gdA, opI, rawI, vbin, srcOf, avsD, acsD, AV.toD, AC.toD, AV.nw, AC.nw, AC.one, Value.oneCell', fillA, D.one, D.ones, D.sz, D.szs, Nat.reduceAdd, Nat.reduceSub, Nat.reduceLeDiff, Nat.reduceEqDiff, reduceIte, pkN, ln_acs, el_ln, getq_map, GPart.acs_eq, GPart.flat_eq, GPart.agg_eq, GPart.el, he]) | (first | (with_reducible rfl) | (with_reducible refine fnok_id ?_; kernel_rfl) | exact el_strs _ | exact el_ints _ | exact el_ln _ | exact el_tk _ _ | exact el_td _ _ _ | omega | (simp; done) | (simp; omega)) | ((with_reducible refine args_id ?_); simp [ArgsOk, ArgOk, argsD, argD, AC.toD, Value.oneCell', sl_flat, leaf_flat, li_flat, ls_flat, sl_agg, leaf_agg, li_agg, ls_agg, mo_t, mo_f, ln_acs, el_ln, getq_map, GPart.acs_eq, GPart.flat_eq, GPart.agg_eq, GPart.el, he]; done))
      exact endRet ⟨_, rfl, by rw [ht]; rfl, trivial⟩
    | false =>
      have ht := hasZ_take l z hlt
      rw [hf, he] at ht
      repeat' (first | (with_reducible first | refine awp_seq ?_ | refine awp_block ?_ | refine awp_skip ?_ | refine awp_exit ?_ | refine awp_ret ?_ | refine athen ?_ | refine thenExit ?_ | refine thenRet ?_ | refine blockNormal ?_ | refine blockExit ?_ | refine blockRet ?_ | refine roundExit ?_ | refine roundRet ?_ | refine roundExitR ?_ | refine roundRetR ?_) | ((with_reducible refine blockPass ?_ ?_); rfl) | ((with_reducible refine awp_condT ?_ ?_); rfl) | ((with_reducible refine awp_condF ?_ ?_); rfl) | (with_reducible (refine awp_condS rfl ?_ ?_); all_goals (intro hb; have hb' := hb; (try simp only [pkC] at hb'); first | (exfalso; omega) | skip)) | ((with_reducible refine awp_reg ?_); intro K hK) | ((with_reducible refine sw_guardT ?_ ?_); rfl) | ((with_reducible refine sw_guardF ?_ ?_); rfl) | (with_reducible (refine sw_guardS rfl ?_ ?_); all_goals (intro hb; have hb' := hb; (try simp only [pkC] at hb'); first | (exfalso; omega) | skip)) | ((with_reducible refine hK _ ?_); clear hK K) | (with_reducible refine and_split ?_ ?_) | ((with_reducible refine sw_id ?_); simp (disch := first | decide | omega) only [↓pkS, pkW, pkA, undef, capsOf, ex, St.put, St.ev, kav, gdA, opI, rawI, vbin, srcOf, avsD, acsD, AV.toD, AC.toD, AV.nw, AC.nw, AC.one, Value.oneCell', fillA, D.one, D.ones, D.sz, D.szs, Nat.reduceAdd, Nat.reduceSub, Nat.reduceLeDiff, Nat.reduceEqDiff, reduceIte, pkN, ln_acs, el_ln, getq_map, GPart.acs_eq, GPart.flat_eq, GPart.agg_eq, GPart.el, he]) | (first | (with_reducible rfl) | (with_reducible refine fnok_id ?_; kernel_rfl) | exact el_strs _ | exact el_ints _ | exact el_ln _ | exact el_tk _ _ | exact el_td _ _ _ | omega | (simp; done) | (simp; omega)) | ((with_reducible refine args_id ?_); simp [ArgsOk, ArgOk, argsD, argD, AC.toD, Value.oneCell', sl_flat, leaf_flat, li_flat, ls_flat, sl_agg, leaf_agg, li_agg, ls_agg, mo_t, mo_f, ln_acs, el_ln, getq_map, GPart.acs_eq, GPart.flat_eq, GPart.agg_eq, GPart.el, he]; done))
      refine roundB (k + 1) ?_ ⟨by omega, ht⟩ (show l.length - (k + 1) < l.length - k by omega)
      simp [StLe', FrLe, OwnLe, BoxLe, AV.fits, AC.fits, FB, mask]
  · obtain rfl : k = l.length := by omega
    rw [List.take_length] at hf
    repeat' (first | (with_reducible first | refine awp_seq ?_ | refine awp_block ?_ | refine awp_skip ?_ | refine awp_exit ?_ | refine awp_ret ?_ | refine athen ?_ | refine thenExit ?_ | refine thenRet ?_ | refine blockNormal ?_ | refine blockExit ?_ | refine blockRet ?_ | refine roundExit ?_ | refine roundRet ?_ | refine roundExitR ?_ | refine roundRetR ?_) | ((with_reducible refine blockPass ?_ ?_); rfl) | ((with_reducible refine awp_condT ?_ ?_); rfl) | ((with_reducible refine awp_condF ?_ ?_); rfl) | (with_reducible (refine awp_condS rfl ?_ ?_); all_goals (intro hb; have hb' := hb; (try simp only [pkC] at hb'); first | (exfalso; omega) | skip)) | ((with_reducible refine awp_reg ?_); intro K hK) | ((with_reducible refine sw_guardT ?_ ?_); rfl) | ((with_reducible refine sw_guardF ?_ ?_); rfl) | (with_reducible (refine sw_guardS rfl ?_ ?_); all_goals (intro hb; have hb' := hb; (try simp only [pkC] at hb'); first | (exfalso; omega) | skip)) | ((with_reducible refine hK _ ?_); clear hK K) | (with_reducible refine and_split ?_ ?_) | ((with_reducible refine sw_id ?_); simp (disch := first | decide | omega) only [↓pkS, pkW, pkA, undef, capsOf, ex, St.put, St.ev, kav, gdA, opI, rawI, vbin, srcOf, avsD, acsD, AV.toD, AC.toD, AV.nw, AC.nw, AC.one, Value.oneCell', fillA, D.one, D.ones, D.sz, D.szs, Nat.reduceAdd, Nat.reduceSub, Nat.reduceLeDiff, Nat.reduceEqDiff, reduceIte, pkN, ln_acs, el_ln, getq_map, GPart.acs_eq, GPart.flat_eq, GPart.agg_eq, GPart.el]) | (first | (with_reducible rfl) | (with_reducible refine fnok_id ?_; kernel_rfl) | exact el_strs _ | exact el_ints _ | exact el_ln _ | exact el_tk _ _ | exact el_td _ _ _ | omega | (simp; done) | (simp; omega)) | ((with_reducible refine args_id ?_); simp [ArgsOk, ArgOk, argsD, argD, AC.toD, Value.oneCell', sl_flat, leaf_flat, li_flat, ls_flat, sl_agg, leaf_agg, li_agg, ls_agg, mo_t, mo_f, ln_acs, el_ln, getq_map, GPart.acs_eq, GPart.flat_eq, GPart.agg_eq, GPart.el]; done))
    exact endRet ⟨_, rfl, by rw [hf]; rfl, trivial⟩
/-! ### Cycles -/
noncomputable def onC (l : List GPart) (z : Int) : Bool := hasI (cl l.length (nrI l false) z) z
theorem isDup_spec_t (l : List GPart) (z : Int) (hn : l.length ≤ 1048576) : CallsTo Tryz.prog 31 [.sl (l.map GPart.toD), li z] (.c false [.raw (.bool (dupB l z))]) := to_retB fun w vs hr => by
  obtain ⟨v, u, rfl, h1, h2⟩ := rds2 hr
  obtain ⟨fp, hS⟩ := rd_sl h1
  obtain rfl := rd_leaf h2
  exact isDuplicate_spec l z fp v w hS hn
def ic_onC_impl : IC := (.seq (.reg false [⟨(some 4), none, .mov (.k (.bool false))⟩]) (.seq (.reg false [⟨(some 5), none, .mov (.t 0)⟩, ⟨(some 6), none, .mov (.t 1)⟩, ⟨(some 7), none, .call 55 [(.t 5), (.t 6)]⟩, ⟨(some 8), none, .mov (.t 1)⟩, ⟨(some 9), none, .call 18 [(.t 7), (.t 8)]⟩, ⟨(some 4), none, .mov (.t 9)⟩]) .ret))
theorem ic_onC_impl_ok : compC Tryz.prog (Tryz.f37.body.getD .skip) = some ic_onC_impl := by kernel_rfl
theorem onCycle_impl_to (l : List GPart) (z : Int) (hw : l.length + D.wts (l.map GPart.toD) ≤ 1048576) : CallsTo Tryz.prog 37 [.sl (l.map GPart.toD), li z] (.c false [.raw (.bool (onC l z))]) := by
  have hau := allUses_impl_to l z hw
  have hcl := cl_len l.length (nrI l false) z
  refine calls_one (fn := Tryz.f37) (t := 4) (by kernel_rfl) (by kernel_rfl) (by kernel_rfl) ic_onC_impl_ok ?_
  unfold ic_onC_impl
  change AWP _ _ _ (st0 10 _)
  simp only [undef, stS, st0, stN, D.av, D.avN, sl_agg, leaf_agg, li_agg, ls_agg, sl_acs, leaf_acs, li_acs, ls_acs, ln_acs, el_ln, getq_map, GPart.acs_eq, GPart.flat_eq, GPart.agg_eq, GPart.el, List.map_cons, List.map_nil, List.replicate, List.cons_append, List.nil_append, List.length_cons, List.length_nil, Nat.reduceAdd, Nat.reduceSub]
  repeat' (first | (with_reducible first | refine awp_seq ?_ | refine awp_block ?_ | refine awp_skip ?_ | refine awp_exit ?_ | refine awp_ret ?_ | refine athen ?_ | refine thenExit ?_ | refine thenRet ?_ | refine blockNormal ?_ | refine blockExit ?_ | refine blockRet ?_ | refine roundExit ?_ | refine roundRet ?_ | refine roundExitR ?_ | refine roundRetR ?_) | ((with_reducible refine blockPass ?_ ?_); rfl) | ((with_reducible refine awp_condT ?_ ?_); rfl) | ((with_reducible refine awp_condF ?_ ?_); rfl) | (with_reducible (refine awp_condS rfl ?_ ?_); all_goals (intro hb; have hb' := hb; (try simp only [pkC] at hb'); first | (exfalso; omega) | skip)) | ((with_reducible refine awp_reg ?_); intro K hK) | ((with_reducible refine sw_guardT ?_ ?_); rfl) | ((with_reducible refine sw_guardF ?_ ?_); rfl) | (with_reducible (refine sw_guardS rfl ?_ ?_); all_goals (intro hb; have hb' := hb; (try simp only [pkC] at hb'); first | (exfalso; omega) | skip)) | ((with_reducible refine hK _ ?_); clear hK K) | (with_reducible refine and_split ?_ ?_) | ((with_reducible refine ct_id ?_); first | (refine callOwn hau (el_ln _) ?_ ?_) | (refine callThen (hasInt_to (cl l.length (nrI l false) z) z (by omega)) trivial ?_ ?_)) | ((with_reducible refine ctd_id ?_); first | (refine callThenD (hasInt_to (cl l.length (nrI l false) z) z (by omega)) trivial ?_ ?_)) | ((with_reducible refine sw_id ?_); simp (disch := first | decide | omega) only [↓pkS, pkW, pkA, undef, capsOf, ex, St.put, St.ev, kav, gdA, opI, rawI, vbin, srcOf, avsD, acsD, AV.toD, AC.toD, AV.nw, AC.nw, AC.one, Value.oneCell', fillA, D.one, D.ones, D.sz, D.szs, Nat.reduceAdd, Nat.reduceSub, Nat.reduceLeDiff, Nat.reduceEqDiff, reduceIte, pkN, ln_acs, el_ln, getq_map, GPart.acs_eq, GPart.flat_eq, GPart.agg_eq, GPart.el]) | (first | (with_reducible rfl) | (with_reducible refine fnok_id ?_; kernel_rfl) | exact el_strs _ | exact el_ints _ | exact el_ln _ | exact el_tk _ _ | exact el_td _ _ _ | omega | (simp; done) | (simp; omega)) | ((with_reducible refine args_id ?_); simp [ArgsOk, ArgOk, argsD, argD, AC.toD, Value.oneCell', sl_flat, leaf_flat, li_flat, ls_flat, sl_agg, leaf_agg, li_agg, ls_agg, mo_t, mo_f, ln_acs, el_ln, getq_map, GPart.acs_eq, GPart.flat_eq, GPart.agg_eq, GPart.el]; done))
  exact endRet ⟨_, rfl, rfl, trivial⟩
theorem onCycle_impl (l : List GPart) (z : Int) (r : Bool) (hr : onC l z = r) (fp : List Nat) (v : Value) (w : World) (hS : Sl w (l.map GPart.toD) fp v) (hw : l.length + D.wts (l.map GPart.toD) ≤ 1048576) : Calls Tryz.prog 37 #[v, .int .i64 z] w (RetB (.bool r) w) :=
  hr ▸ of_raw (onCycle_impl_to l z hw) (vs := [v, .int .i64 z]) ⟨rd_of_sl hS, rd_of_leaf _, trivial⟩
theorem isDup_impl_t (l : List GPart) (z : Int) (hn : l.length ≤ 1048576) : CallsTo Tryz.prog 36 [.sl (l.map GPart.toD), li z] (.c false [.raw (.bool (dupB l z))]) := to_retB fun w vs hr => by
  obtain ⟨v, u, rfl, h1, h2⟩ := rds2 hr
  obtain ⟨fp, hS⟩ := rd_sl h1
  obtain rfl := rd_leaf h2
  exact isDuplicate_impl l z fp v w hS hn
end Go.Proofs.YtnfamcepojpkjaaGreat
