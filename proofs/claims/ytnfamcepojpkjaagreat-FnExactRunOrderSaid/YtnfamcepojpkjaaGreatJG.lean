/-
  Texts joined: RunB RunS RunI Needs Iso IsoC.
-/
import Derived.Test.YtnfamcepojpkjaaGreatJF
namespace Go.Proofs.YtnfamcepojpkjaaGreat
open Go.RowKit
set_option linter.unusedSimpArgs false
set_option linter.unusedVariables false
def kOk (x : GPart) : Bool := x.kind == 2 || x.kind == 3
noncomputable def runB (l : List GPart) (z : Int) : Bool := decide (0 ≤ z) && (match l[z.toNat]? with | some x => kOk x && !dupB l z && !onC l z | none => false)
theorem runB_at (l : List GPart) {z : Int} (h0 : 0 ≤ z) (h : z.toNat < l.length) : runB l z = (kOk l[z.toNat] && !dupB l z && !onC l z) := by
  unfold runB; rw [List.getElem?_eq_getElem h]; simp [h0]
theorem runB_out (l : List GPart) {z : Int} (h : ¬ (0 ≤ z ∧ z.toNat < l.length)) : runB l z = false := by
  unfold runB
  by_cases h0 : 0 ≤ z
  · rw [List.getElem?_eq_none (by omega)]; simp
  · simp [h0]
end Go.Proofs.YtnfamcepojpkjaaGreat

namespace Go.Proofs.YtnfamcepojpkjaaGreat
open Go.RowKit
set_option linter.unusedSimpArgs false
set_option linter.unusedVariables false
end Go.Proofs.YtnfamcepojpkjaaGreat

namespace Go.Proofs.YtnfamcepojpkjaaGreat
open Go.RowKit
set_option linter.unusedSimpArgs false
set_option linter.unusedVariables false
def ic_run_impl : IC := (.seq (.reg false [⟨(some 4), none, .mov (.k (.bool false))⟩]) (.seq (.reg false [⟨(some 5), none, .mov (.t 1)⟩, ⟨(some 6), none, .bin .geq (.t 5) (.k (.int .i64 0))⟩, ⟨(some 7), none, .mov (.t 6)⟩, ⟨(some 8), (some (7, true)), .mov (.t 1)⟩, ⟨(some 9), (some (7, true)), .mov (.t 0)⟩, ⟨(some 10), (some (7, true)), .len false (.t 9)⟩, ⟨(some 11), (some (7, true)), .bin .lss (.t 8) (.t 10)⟩, ⟨(some 12), none, .pick (.t 7) (.t 11) (.k (.bool false))⟩, ⟨(some 13), none, .mov (.t 12)⟩, ⟨(some 14), (some (13, true)), .mov (.t 0)⟩, ⟨(some 15), (some (13, true)), .mov (.t 1)⟩, ⟨(some 16), (some (13, true)), .iad 14 (.t 14) (.t 15)⟩, ⟨(some 17), (some (13, true)), .fad 0 (.t 16)⟩, ⟨(some 18), (some (13, true)), .load 1 false (.t 17)⟩, ⟨(some 19), (some (13, true)), .bin .eql (.t 18) (.k (.int .i64 2))⟩, ⟨(some 20), (some (13, true)), .mov (.t 19)⟩, ⟨(some 21), (some (20, false)), .mov (.t 0)⟩, ⟨(some 22), (some (20, false)), .mov (.t 1)⟩, ⟨(some 23), (some (20, false)), .iad 14 (.t 21) (.t 22)⟩, ⟨(some 24), (some (20, false)), .fad 0 (.t 23)⟩, ⟨(some 25), (some (20, false)), .load 1 false (.t 24)⟩, ⟨(some 26), (some (20, false)), .bin .eql (.t 25) (.k (.int .i64 3))⟩, ⟨(some 27), (some (13, true)), .pick (.t 20) (.k (.bool true)) (.t 26)⟩, ⟨(some 28), none, .pick (.t 13) (.t 27) (.k (.bool false))⟩, ⟨(some 29), none, .mov (.t 28)⟩, ⟨(some 30), (some (29, true)), .mov (.t 0)⟩, ⟨(some 31), (some (29, true)), .mov (.t 1)⟩, ⟨(some 32), (some (29, true)), .call 36 [(.t 30), (.t 31)]⟩, ⟨(some 33), (some (29, true)), .not (.t 32)⟩, ⟨(some 34), none, .pick (.t 29) (.t 33) (.k (.bool false))⟩, ⟨(some 35), none, .mov (.t 34)⟩, ⟨(some 36), (some (35, true)), .mov (.t 0)⟩, ⟨(some 37), (some (35, true)), .mov (.t 1)⟩, ⟨(some 38), (some (35, true)), .call 37 [(.t 36), (.t 37)]⟩, ⟨(some 39), (some (35, true)), .not (.t 38)⟩, ⟨(some 40), none, .pick (.t 35) (.t 39) (.k (.bool false))⟩, ⟨(some 4), none, .mov (.t 40)⟩]) .ret))
theorem ic_run_impl_ok : compC Tryz.prog (Tryz.f19.body.getD .skip) = some ic_run_impl := by kernel_rfl
set_option maxHeartbeats 4000000 in
theorem isRunnable_impl_k1a (l : List GPart) (z : Int) (hw : l.length + D.wts (l.map GPart.toD) ≤ 1048576) (h0 : 0 ≤ z) (hlt : z.toNat < l.length) (hk : l[z.toNat].kind = 2) (hd : dupB l z = true) : CallsTo Tryz.prog 19 [.sl (l.map GPart.toD), li z] (.c false [.raw (.bool (false))]) := by
  have hn : l.length ≤ 1048576 := by omega
  refine calls_one (fn := Tryz.f19) (t := 4) (by kernel_rfl) (by kernel_rfl) (by kernel_rfl) ic_run_impl_ok ?_
  unfold ic_run_impl
  change AWP _ _ _ (st0 41 _)
  simp only [undef, stS, st0, stN, D.av, D.avN, sl_agg, leaf_agg, li_agg, ls_agg, sl_acs, leaf_acs, li_acs, ls_acs, ln_acs, el_ln, getq_map, GPart.acs_eq, GPart.flat_eq, GPart.agg_eq, GPart.el, List.map_cons, List.map_nil, List.replicate, List.cons_append, List.nil_append, List.length_cons, List.length_nil, Nat.reduceAdd, Nat.reduceSub]
  have hinB : inB z 0 ((l.length : Int) - 1) = true := by simp [inB]; omega
  repeat' (first | (with_reducible first | refine awp_seq ?_ | refine awp_block ?_ | refine awp_skip ?_ | refine awp_exit ?_ | refine awp_ret ?_ | refine athen ?_ | refine thenExit ?_ | refine thenRet ?_ | refine blockNormal ?_ | refine blockExit ?_ | refine blockRet ?_ | refine roundExit ?_ | refine roundRet ?_ | refine roundExitR ?_ | refine roundRetR ?_) | ((with_reducible refine blockPass ?_ ?_); rfl) | ((with_reducible refine awp_condT ?_ ?_); rfl) | ((with_reducible refine awp_condF ?_ ?_); rfl) | (with_reducible (refine awp_condS rfl ?_ ?_); all_goals (intro hb; have hb' := hb; (try simp only [pkC] at hb'); first | (exfalso; omega) | skip)) | ((with_reducible refine awp_reg ?_); intro K hK) | ((with_reducible refine sw_guardT ?_ ?_); rfl) | ((with_reducible refine sw_guardF ?_ ?_); rfl) | (with_reducible (refine sw_guardS rfl ?_ ?_); all_goals (intro hb; have hb' := hb; (try simp only [pkC] at hb'); first | (exfalso; omega) | skip)) | ((with_reducible refine hK _ ?_); clear hK K) | (with_reducible refine and_split ?_ ?_) | ((with_reducible refine ct_id ?_); first | (refine callThen (isDup_impl_t l z hn) trivial ?_ ?_) | (refine callThen (onCycle_impl_to l z hw) trivial ?_ ?_)) | ((with_reducible refine ctd_id ?_); first | (refine callThenD (isDup_impl_t l z hn) trivial ?_ ?_) | (refine callThenD (onCycle_impl_to l z hw) trivial ?_ ?_)) | ((with_reducible refine sw_id ?_); simp (disch := first | decide | omega) only [↓pkS, pkW, pkA, undef, capsOf, ex, St.put, St.ev, kav, gdA, opI, rawI, vbin, srcOf, avsD, acsD, AV.toD, AC.toD, AV.nw, AC.nw, AC.one, Value.oneCell', fillA, D.one, D.ones, D.sz, D.szs, Nat.reduceAdd, Nat.reduceSub, Nat.reduceLeDiff, Nat.reduceEqDiff, reduceIte, pkN, ln_acs, el_ln, getq_map, GPart.acs_eq, GPart.flat_eq, GPart.agg_eq, GPart.el, hinB, hd]) | (first | (with_reducible rfl) | (with_reducible refine fnok_id ?_; kernel_rfl) | exact el_strs _ | exact el_ints _ | exact el_ln _ | exact el_tk _ _ | exact el_td _ _ _ | omega | (simp; done) | (simp; omega)) | ((with_reducible refine args_id ?_); simp [ArgsOk, ArgOk, argsD, argD, AC.toD, Value.oneCell', sl_flat, leaf_flat, li_flat, ls_flat, sl_agg, leaf_agg, li_agg, ls_agg, mo_t, mo_f, ln_acs, el_ln, getq_map, GPart.acs_eq, GPart.flat_eq, GPart.agg_eq, GPart.el, hinB, hd]; done))
  all_goals exact endRet ⟨_, rfl, by first | rfl | (unfold kOk; simp [*]; done) | (unfold kOk; simp [*]; rfl), trivial⟩
set_option maxHeartbeats 4000000 in
theorem isRunnable_impl_k2a (l : List GPart) (z : Int) (hw : l.length + D.wts (l.map GPart.toD) ≤ 1048576) (h0 : 0 ≤ z) (hlt : z.toNat < l.length) (hk : l[z.toNat].kind = 2) (hd : dupB l z = false) (hcy : onC l z = true) : CallsTo Tryz.prog 19 [.sl (l.map GPart.toD), li z] (.c false [.raw (.bool (false))]) := by
  have hn : l.length ≤ 1048576 := by omega
  refine calls_one (fn := Tryz.f19) (t := 4) (by kernel_rfl) (by kernel_rfl) (by kernel_rfl) ic_run_impl_ok ?_
  unfold ic_run_impl
  change AWP _ _ _ (st0 41 _)
  simp only [undef, stS, st0, stN, D.av, D.avN, sl_agg, leaf_agg, li_agg, ls_agg, sl_acs, leaf_acs, li_acs, ls_acs, ln_acs, el_ln, getq_map, GPart.acs_eq, GPart.flat_eq, GPart.agg_eq, GPart.el, List.map_cons, List.map_nil, List.replicate, List.cons_append, List.nil_append, List.length_cons, List.length_nil, Nat.reduceAdd, Nat.reduceSub]
  have hinB : inB z 0 ((l.length : Int) - 1) = true := by simp [inB]; omega
  repeat' (first | (with_reducible first | refine awp_seq ?_ | refine awp_block ?_ | refine awp_skip ?_ | refine awp_exit ?_ | refine awp_ret ?_ | refine athen ?_ | refine thenExit ?_ | refine thenRet ?_ | refine blockNormal ?_ | refine blockExit ?_ | refine blockRet ?_ | refine roundExit ?_ | refine roundRet ?_ | refine roundExitR ?_ | refine roundRetR ?_) | ((with_reducible refine blockPass ?_ ?_); rfl) | ((with_reducible refine awp_condT ?_ ?_); rfl) | ((with_reducible refine awp_condF ?_ ?_); rfl) | (with_reducible (refine awp_condS rfl ?_ ?_); all_goals (intro hb; have hb' := hb; (try simp only [pkC] at hb'); first | (exfalso; omega) | skip)) | ((with_reducible refine awp_reg ?_); intro K hK) | ((with_reducible refine sw_guardT ?_ ?_); rfl) | ((with_reducible refine sw_guardF ?_ ?_); rfl) | (with_reducible (refine sw_guardS rfl ?_ ?_); all_goals (intro hb; have hb' := hb; (try simp only [pkC] at hb'); first | (exfalso; omega) | skip)) | ((with_reducible refine hK _ ?_); clear hK K) | (with_reducible refine and_split ?_ ?_) | ((with_reducible refine ct_id ?_); first | (refine callThen (isDup_impl_t l z hn) trivial ?_ ?_) | (refine callThen (onCycle_impl_to l z hw) trivial ?_ ?_)) | ((with_reducible refine ctd_id ?_); first | (refine callThenD (isDup_impl_t l z hn) trivial ?_ ?_) | (refine callThenD (onCycle_impl_to l z hw) trivial ?_ ?_)) | ((with_reducible refine sw_id ?_); simp (disch := first | decide | omega) only [↓pkS, pkW, pkA, undef, capsOf, ex, St.put, St.ev, kav, gdA, opI, rawI, vbin, srcOf, avsD, acsD, AV.toD, AC.toD, AV.nw, AC.nw, AC.one, Value.oneCell', fillA, D.one, D.ones, D.sz, D.szs, Nat.reduceAdd, Nat.reduceSub, Nat.reduceLeDiff, Nat.reduceEqDiff, reduceIte, pkN, ln_acs, el_ln, getq_map, GPart.acs_eq, GPart.flat_eq, GPart.agg_eq, GPart.el, hinB, hd, hcy]) | (first | (with_reducible rfl) | (with_reducible refine fnok_id ?_; kernel_rfl) | exact el_strs _ | exact el_ints _ | exact el_ln _ | exact el_tk _ _ | exact el_td _ _ _ | omega | (simp; done) | (simp; omega)) | ((with_reducible refine args_id ?_); simp [ArgsOk, ArgOk, argsD, argD, AC.toD, Value.oneCell', sl_flat, leaf_flat, li_flat, ls_flat, sl_agg, leaf_agg, li_agg, ls_agg, mo_t, mo_f, ln_acs, el_ln, getq_map, GPart.acs_eq, GPart.flat_eq, GPart.agg_eq, GPart.el, hinB, hd, hcy]; done))
  all_goals exact endRet ⟨_, rfl, by first | rfl | (unfold kOk; simp [*]; done) | (unfold kOk; simp [*]; rfl), trivial⟩
set_option maxHeartbeats 4000000 in
theorem isRunnable_impl_k3a (l : List GPart) (z : Int) (hw : l.length + D.wts (l.map GPart.toD) ≤ 1048576) (h0 : 0 ≤ z) (hlt : z.toNat < l.length) (hk : l[z.toNat].kind = 2) (hd : dupB l z = false) (hcy : onC l z = false) : CallsTo Tryz.prog 19 [.sl (l.map GPart.toD), li z] (.c false [.raw (.bool (true))]) := by
  have hn : l.length ≤ 1048576 := by omega
  refine calls_one (fn := Tryz.f19) (t := 4) (by kernel_rfl) (by kernel_rfl) (by kernel_rfl) ic_run_impl_ok ?_
  unfold ic_run_impl
  change AWP _ _ _ (st0 41 _)
  simp only [undef, stS, st0, stN, D.av, D.avN, sl_agg, leaf_agg, li_agg, ls_agg, sl_acs, leaf_acs, li_acs, ls_acs, ln_acs, el_ln, getq_map, GPart.acs_eq, GPart.flat_eq, GPart.agg_eq, GPart.el, List.map_cons, List.map_nil, List.replicate, List.cons_append, List.nil_append, List.length_cons, List.length_nil, Nat.reduceAdd, Nat.reduceSub]
  have hinB : inB z 0 ((l.length : Int) - 1) = true := by simp [inB]; omega
  repeat' (first | (with_reducible first | refine awp_seq ?_ | refine awp_block ?_ | refine awp_skip ?_ | refine awp_exit ?_ | refine awp_ret ?_ | refine athen ?_ | refine thenExit ?_ | refine thenRet ?_ | refine blockNormal ?_ | refine blockExit ?_ | refine blockRet ?_ | refine roundExit ?_ | refine roundRet ?_ | refine roundExitR ?_ | refine roundRetR ?_) | ((with_reducible refine blockPass ?_ ?_); rfl) | ((with_reducible refine awp_condT ?_ ?_); rfl) | ((with_reducible refine awp_condF ?_ ?_); rfl) | (with_reducible (refine awp_condS rfl ?_ ?_); all_goals (intro hb; have hb' := hb; (try simp only [pkC] at hb'); first | (exfalso; omega) | skip)) | ((with_reducible refine awp_reg ?_); intro K hK) | ((with_reducible refine sw_guardT ?_ ?_); rfl) | ((with_reducible refine sw_guardF ?_ ?_); rfl) | (with_reducible (refine sw_guardS rfl ?_ ?_); all_goals (intro hb; have hb' := hb; (try simp only [pkC] at hb'); first | (exfalso; omega) | skip)) | ((with_reducible refine hK _ ?_); clear hK K) | (with_reducible refine and_split ?_ ?_) | ((with_reducible refine ct_id ?_); first | (refine callThen (isDup_impl_t l z hn) trivial ?_ ?_) | (refine callThen (onCycle_impl_to l z hw) trivial ?_ ?_)) | ((with_reducible refine ctd_id ?_); first | (refine callThenD (isDup_impl_t l z hn) trivial ?_ ?_) | (refine callThenD (onCycle_impl_to l z hw) trivial ?_ ?_)) | ((with_reducible refine sw_id ?_); simp (disch := first | decide | omega) only [↓pkS, pkW, pkA, undef, capsOf, ex, St.put, St.ev, kav, gdA, opI, rawI, vbin, srcOf, avsD, acsD, AV.toD, AC.toD, AV.nw, AC.nw, AC.one, Value.oneCell', fillA, D.one, D.ones, D.sz, D.szs, Nat.reduceAdd, Nat.reduceSub, Nat.reduceLeDiff, Nat.reduceEqDiff, reduceIte, pkN, ln_acs, el_ln, getq_map, GPart.acs_eq, GPart.flat_eq, GPart.agg_eq, GPart.el, hinB, hd, hcy]) | (first | (with_reducible rfl) | (with_reducible refine fnok_id ?_; kernel_rfl) | exact el_strs _ | exact el_ints _ | exact el_ln _ | exact el_tk _ _ | exact el_td _ _ _ | omega | (simp; done) | (simp; omega)) | ((with_reducible refine args_id ?_); simp [ArgsOk, ArgOk, argsD, argD, AC.toD, Value.oneCell', sl_flat, leaf_flat, li_flat, ls_flat, sl_agg, leaf_agg, li_agg, ls_agg, mo_t, mo_f, ln_acs, el_ln, getq_map, GPart.acs_eq, GPart.flat_eq, GPart.agg_eq, GPart.el, hinB, hd, hcy]; done))
  all_goals exact endRet ⟨_, rfl, by first | rfl | (unfold kOk; simp [*]; done) | (unfold kOk; simp [*]; rfl), trivial⟩
set_option maxHeartbeats 4000000 in
theorem isRunnable_impl_k1b (l : List GPart) (z : Int) (hw : l.length + D.wts (l.map GPart.toD) ≤ 1048576) (h0 : 0 ≤ z) (hlt : z.toNat < l.length) (hk : l[z.toNat].kind = 3) (hd : dupB l z = true) : CallsTo Tryz.prog 19 [.sl (l.map GPart.toD), li z] (.c false [.raw (.bool (false))]) := by
  have hn : l.length ≤ 1048576 := by omega
  refine calls_one (fn := Tryz.f19) (t := 4) (by kernel_rfl) (by kernel_rfl) (by kernel_rfl) ic_run_impl_ok ?_
  unfold ic_run_impl
  change AWP _ _ _ (st0 41 _)
  simp only [undef, stS, st0, stN, D.av, D.avN, sl_agg, leaf_agg, li_agg, ls_agg, sl_acs, leaf_acs, li_acs, ls_acs, ln_acs, el_ln, getq_map, GPart.acs_eq, GPart.flat_eq, GPart.agg_eq, GPart.el, List.map_cons, List.map_nil, List.replicate, List.cons_append, List.nil_append, List.length_cons, List.length_nil, Nat.reduceAdd, Nat.reduceSub]
  have hinB : inB z 0 ((l.length : Int) - 1) = true := by simp [inB]; omega
  repeat' (first | (with_reducible first | refine awp_seq ?_ | refine awp_block ?_ | refine awp_skip ?_ | refine awp_exit ?_ | refine awp_ret ?_ | refine athen ?_ | refine thenExit ?_ | refine thenRet ?_ | refine blockNormal ?_ | refine blockExit ?_ | refine blockRet ?_ | refine roundExit ?_ | refine roundRet ?_ | refine roundExitR ?_ | refine roundRetR ?_) | ((with_reducible refine blockPass ?_ ?_); rfl) | ((with_reducible refine awp_condT ?_ ?_); rfl) | ((with_reducible refine awp_condF ?_ ?_); rfl) | (with_reducible (refine awp_condS rfl ?_ ?_); all_goals (intro hb; have hb' := hb; (try simp only [pkC] at hb'); first | (exfalso; omega) | skip)) | ((with_reducible refine awp_reg ?_); intro K hK) | ((with_reducible refine sw_guardT ?_ ?_); rfl) | ((with_reducible refine sw_guardF ?_ ?_); rfl) | (with_reducible (refine sw_guardS rfl ?_ ?_); all_goals (intro hb; have hb' := hb; (try simp only [pkC] at hb'); first | (exfalso; omega) | skip)) | ((with_reducible refine hK _ ?_); clear hK K) | (with_reducible refine and_split ?_ ?_) | ((with_reducible refine ct_id ?_); first | (refine callThen (isDup_impl_t l z hn) trivial ?_ ?_) | (refine callThen (onCycle_impl_to l z hw) trivial ?_ ?_)) | ((with_reducible refine ctd_id ?_); first | (refine callThenD (isDup_impl_t l z hn) trivial ?_ ?_) | (refine callThenD (onCycle_impl_to l z hw) trivial ?_ ?_)) | ((with_reducible refine sw_id ?_); simp (disch := first | decide | omega) only [↓pkS, pkW, pkA, undef, capsOf, ex, St.put, St.ev, kav, gdA, opI, rawI, vbin, srcOf, avsD, acsD, AV.toD, AC.toD, AV.nw, AC.nw, AC.one, Value.oneCell', fillA, D.one, D.ones, D.sz, D.szs, Nat.reduceAdd, Nat.reduceSub, Nat.reduceLeDiff, Nat.reduceEqDiff, reduceIte, pkN, ln_acs, el_ln, getq_map, GPart.acs_eq, GPart.flat_eq, GPart.agg_eq, GPart.el, hinB, hd]) | (first | (with_reducible rfl) | (with_reducible refine fnok_id ?_; kernel_rfl) | exact el_strs _ | exact el_ints _ | exact el_ln _ | exact el_tk _ _ | exact el_td _ _ _ | omega | (simp; done) | (simp; omega)) | ((with_reducible refine args_id ?_); simp [ArgsOk, ArgOk, argsD, argD, AC.toD, Value.oneCell', sl_flat, leaf_flat, li_flat, ls_flat, sl_agg, leaf_agg, li_agg, ls_agg, mo_t, mo_f, ln_acs, el_ln, getq_map, GPart.acs_eq, GPart.flat_eq, GPart.agg_eq, GPart.el, hinB, hd]; done))
  all_goals exact endRet ⟨_, rfl, by first | rfl | (unfold kOk; simp [*]; done) | (unfold kOk; simp [*]; rfl), trivial⟩
set_option maxHeartbeats 4000000 in
theorem isRunnable_impl_k2b (l : List GPart) (z : Int) (hw : l.length + D.wts (l.map GPart.toD) ≤ 1048576) (h0 : 0 ≤ z) (hlt : z.toNat < l.length) (hk : l[z.toNat].kind = 3) (hd : dupB l z = false) (hcy : onC l z = true) : CallsTo Tryz.prog 19 [.sl (l.map GPart.toD), li z] (.c false [.raw (.bool (false))]) := by
  have hn : l.length ≤ 1048576 := by omega
  refine calls_one (fn := Tryz.f19) (t := 4) (by kernel_rfl) (by kernel_rfl) (by kernel_rfl) ic_run_impl_ok ?_
  unfold ic_run_impl
  change AWP _ _ _ (st0 41 _)
  simp only [undef, stS, st0, stN, D.av, D.avN, sl_agg, leaf_agg, li_agg, ls_agg, sl_acs, leaf_acs, li_acs, ls_acs, ln_acs, el_ln, getq_map, GPart.acs_eq, GPart.flat_eq, GPart.agg_eq, GPart.el, List.map_cons, List.map_nil, List.replicate, List.cons_append, List.nil_append, List.length_cons, List.length_nil, Nat.reduceAdd, Nat.reduceSub]
  have hinB : inB z 0 ((l.length : Int) - 1) = true := by simp [inB]; omega
  repeat' (first | (with_reducible first | refine awp_seq ?_ | refine awp_block ?_ | refine awp_skip ?_ | refine awp_exit ?_ | refine awp_ret ?_ | refine athen ?_ | refine thenExit ?_ | refine thenRet ?_ | refine blockNormal ?_ | refine blockExit ?_ | refine blockRet ?_ | refine roundExit ?_ | refine roundRet ?_ | refine roundExitR ?_ | refine roundRetR ?_) | ((with_reducible refine blockPass ?_ ?_); rfl) | ((with_reducible refine awp_condT ?_ ?_); rfl) | ((with_reducible refine awp_condF ?_ ?_); rfl) | (with_reducible (refine awp_condS rfl ?_ ?_); all_goals (intro hb; have hb' := hb; (try simp only [pkC] at hb'); first | (exfalso; omega) | skip)) | ((with_reducible refine awp_reg ?_); intro K hK) | ((with_reducible refine sw_guardT ?_ ?_); rfl) | ((with_reducible refine sw_guardF ?_ ?_); rfl) | (with_reducible (refine sw_guardS rfl ?_ ?_); all_goals (intro hb; have hb' := hb; (try simp only [pkC] at hb'); first | (exfalso; omega) | skip)) | ((with_reducible refine hK _ ?_); clear hK K) | (with_reducible refine and_split ?_ ?_) | ((with_reducible refine ct_id ?_); first | (refine callThen (isDup_impl_t l z hn) trivial ?_ ?_) | (refine callThen (onCycle_impl_to l z hw) trivial ?_ ?_)) | ((with_reducible refine ctd_id ?_); first | (refine callThenD (isDup_impl_t l z hn) trivial ?_ ?_) | (refine callThenD (onCycle_impl_to l z hw) trivial ?_ ?_)) | ((with_reducible refine sw_id ?_); simp (disch := first | decide | omega) only [↓pkS, pkW, pkA, undef, capsOf, ex, St.put, St.ev, kav, gdA, opI, rawI, vbin, srcOf, avsD, acsD, AV.toD, AC.toD, AV.nw, AC.nw, AC.one, Value.oneCell', fillA, D.one, D.ones, D.sz, D.szs, Nat.reduceAdd, Nat.reduceSub, Nat.reduceLeDiff, Nat.reduceEqDiff, reduceIte, pkN, ln_acs, el_ln, getq_map, GPart.acs_eq, GPart.flat_eq, GPart.agg_eq, GPart.el, hinB, hd, hcy]) | (first | (with_reducible rfl) | (with_reducible refine fnok_id ?_; kernel_rfl) | exact el_strs _ | exact el_ints _ | exact el_ln _ | exact el_tk _ _ | exact el_td _ _ _ | omega | (simp; done) | (simp; omega)) | ((with_reducible refine args_id ?_); simp [ArgsOk, ArgOk, argsD, argD, AC.toD, Value.oneCell', sl_flat, leaf_flat, li_flat, ls_flat, sl_agg, leaf_agg, li_agg, ls_agg, mo_t, mo_f, ln_acs, el_ln, getq_map, GPart.acs_eq, GPart.flat_eq, GPart.agg_eq, GPart.el, hinB, hd, hcy]; done))
  all_goals exact endRet ⟨_, rfl, by first | rfl | (unfold kOk; simp [*]; done) | (unfold kOk; simp [*]; rfl), trivial⟩
set_option maxHeartbeats 4000000 in
theorem isRunnable_impl_k3b (l : List GPart) (z : Int) (hw : l.length + D.wts (l.map GPart.toD) ≤ 1048576) (h0 : 0 ≤ z) (hlt : z.toNat < l.length) (hk : l[z.toNat].kind = 3) (hd : dupB l z = false) (hcy : onC l z = false) : CallsTo Tryz.prog 19 [.sl (l.map GPart.toD), li z] (.c false [.raw (.bool (true))]) := by
  have hn : l.length ≤ 1048576 := by omega
  refine calls_one (fn := Tryz.f19) (t := 4) (by kernel_rfl) (by kernel_rfl) (by kernel_rfl) ic_run_impl_ok ?_
  unfold ic_run_impl
  change AWP _ _ _ (st0 41 _)
  simp only [undef, stS, st0, stN, D.av, D.avN, sl_agg, leaf_agg, li_agg, ls_agg, sl_acs, leaf_acs, li_acs, ls_acs, ln_acs, el_ln, getq_map, GPart.acs_eq, GPart.flat_eq, GPart.agg_eq, GPart.el, List.map_cons, List.map_nil, List.replicate, List.cons_append, List.nil_append, List.length_cons, List.length_nil, Nat.reduceAdd, Nat.reduceSub]
  have hinB : inB z 0 ((l.length : Int) - 1) = true := by simp [inB]; omega
  repeat' (first | (with_reducible first | refine awp_seq ?_ | refine awp_block ?_ | refine awp_skip ?_ | refine awp_exit ?_ | refine awp_ret ?_ | refine athen ?_ | refine thenExit ?_ | refine thenRet ?_ | refine blockNormal ?_ | refine blockExit ?_ | refine blockRet ?_ | refine roundExit ?_ | refine roundRet ?_ | refine roundExitR ?_ | refine roundRetR ?_) | ((with_reducible refine blockPass ?_ ?_); rfl) | ((with_reducible refine awp_condT ?_ ?_); rfl) | ((with_reducible refine awp_condF ?_ ?_); rfl) | (with_reducible (refine awp_condS rfl ?_ ?_); all_goals (intro hb; have hb' := hb; (try simp only [pkC] at hb'); first | (exfalso; omega) | skip)) | ((with_reducible refine awp_reg ?_); intro K hK) | ((with_reducible refine sw_guardT ?_ ?_); rfl) | ((with_reducible refine sw_guardF ?_ ?_); rfl) | (with_reducible (refine sw_guardS rfl ?_ ?_); all_goals (intro hb; have hb' := hb; (try simp only [pkC] at hb'); first | (exfalso; omega) | skip)) | ((with_reducible refine hK _ ?_); clear hK K) | (with_reducible refine and_split ?_ ?_) | ((with_reducible refine ct_id ?_); first | (refine callThen (isDup_impl_t l z hn) trivial ?_ ?_) | (refine callThen (onCycle_impl_to l z hw) trivial ?_ ?_)) | ((with_reducible refine ctd_id ?_); first | (refine callThenD (isDup_impl_t l z hn) trivial ?_ ?_) | (refine callThenD (onCycle_impl_to l z hw) trivial ?_ ?_)) | ((with_reducible refine sw_id ?_); simp (disch := first | decide | omega) only [↓pkS, pkW, pkA, undef, capsOf, ex, St.put, St.ev, kav, gdA, opI, rawI, vbin, srcOf, avsD, acsD, AV.toD, AC.toD, AV.nw, AC.nw, AC.one, Value.oneCell', fillA, D.one, D.ones, D.sz, D.szs, Nat.reduceAdd, Nat.reduceSub, Nat.reduceLeDiff, Nat.reduceEqDiff, reduceIte, pkN, ln_acs, el_ln, getq_map, GPart.acs_eq, GPart.flat_eq, GPart.agg_eq, GPart.el, hinB, hd, hcy]) | (first | (with_reducible rfl) | (with_reducible refine fnok_id ?_; kernel_rfl) | exact el_strs _ | exact el_ints _ | exact el_ln _ | exact el_tk _ _ | exact el_td _ _ _ | omega | (simp; done) | (simp; omega)) | ((with_reducible refine args_id ?_); simp [ArgsOk, ArgOk, argsD, argD, AC.toD, Value.oneCell', sl_flat, leaf_flat, li_flat, ls_flat, sl_agg, leaf_agg, li_agg, ls_agg, mo_t, mo_f, ln_acs, el_ln, getq_map, GPart.acs_eq, GPart.flat_eq, GPart.agg_eq, GPart.el, hinB, hd, hcy]; done))
  all_goals exact endRet ⟨_, rfl, by first | rfl | (unfold kOk; simp [*]; done) | (unfold kOk; simp [*]; rfl), trivial⟩
set_option maxHeartbeats 4000000 in
theorem isRunnable_impl_kc (l : List GPart) (z : Int) (hw : l.length + D.wts (l.map GPart.toD) ≤ 1048576) (h0 : 0 ≤ z) (hlt : z.toNat < l.length) (hk : ¬ l[z.toNat].kind = 2) (hk2 : ¬ l[z.toNat].kind = 3) : CallsTo Tryz.prog 19 [.sl (l.map GPart.toD), li z] (.c false [.raw (.bool (false))]) := by
  have hn : l.length ≤ 1048576 := by omega
  refine calls_one (fn := Tryz.f19) (t := 4) (by kernel_rfl) (by kernel_rfl) (by kernel_rfl) ic_run_impl_ok ?_
  unfold ic_run_impl
  change AWP _ _ _ (st0 41 _)
  simp only [undef, stS, st0, stN, D.av, D.avN, sl_agg, leaf_agg, li_agg, ls_agg, sl_acs, leaf_acs, li_acs, ls_acs, ln_acs, el_ln, getq_map, GPart.acs_eq, GPart.flat_eq, GPart.agg_eq, GPart.el, List.map_cons, List.map_nil, List.replicate, List.cons_append, List.nil_append, List.length_cons, List.length_nil, Nat.reduceAdd, Nat.reduceSub]
  have hinB : inB z 0 ((l.length : Int) - 1) = true := by simp [inB]; omega
  repeat' (first | (with_reducible first | refine awp_seq ?_ | refine awp_block ?_ | refine awp_skip ?_ | refine awp_exit ?_ | refine awp_ret ?_ | refine athen ?_ | refine thenExit ?_ | refine thenRet ?_ | refine blockNormal ?_ | refine blockExit ?_ | refine blockRet ?_ | refine roundExit ?_ | refine roundRet ?_ | refine roundExitR ?_ | refine roundRetR ?_) | ((with_reducible refine blockPass ?_ ?_); rfl) | ((with_reducible refine awp_condT ?_ ?_); rfl) | ((with_reducible refine awp_condF ?_ ?_); rfl) | (with_reducible (refine awp_condS rfl ?_ ?_); all_goals (intro hb; have hb' := hb; (try simp only [pkC] at hb'); first | (exfalso; omega) | skip)) | ((with_reducible refine awp_reg ?_); intro K hK) | ((with_reducible refine sw_guardT ?_ ?_); rfl) | ((with_reducible refine sw_guardF ?_ ?_); rfl) | (with_reducible (refine sw_guardS rfl ?_ ?_); all_goals (intro hb; have hb' := hb; (try simp only [pkC] at hb'); first | (exfalso; omega) | skip)) | ((with_reducible refine hK _ ?_); clear hK K) | (with_reducible refine and_split ?_ ?_) | ((with_reducible refine ct_id ?_); first | (refine callThen (isDup_impl_t l z hn) trivial ?_ ?_) | (refine callThen (onCycle_impl_to l z hw) trivial ?_ ?_)) | ((with_reducible refine ctd_id ?_); first | (refine callThenD (isDup_impl_t l z hn) trivial ?_ ?_) | (refine callThenD (onCycle_impl_to l z hw) trivial ?_ ?_)) | ((with_reducible refine sw_id ?_); simp (disch := first | decide | omega) only [↓pkS, pkW, pkA, undef, capsOf, ex, St.put, St.ev, kav, gdA, opI, rawI, vbin, srcOf, avsD, acsD, AV.toD, AC.toD, AV.nw, AC.nw, AC.one, Value.oneCell', fillA, D.one, D.ones, D.sz, D.szs, Nat.reduceAdd, Nat.reduceSub, Nat.reduceLeDiff, Nat.reduceEqDiff, reduceIte, pkN, ln_acs, el_ln, getq_map, GPart.acs_eq, GPart.flat_eq, GPart.agg_eq, GPart.el, hinB]) | (first | (with_reducible rfl) | (with_reducible refine fnok_id ?_; kernel_rfl) | exact el_strs _ | exact el_ints _ | exact el_ln _ | exact el_tk _ _ | exact el_td _ _ _ | omega | (simp; done) | (simp; omega)) | ((with_reducible refine args_id ?_); simp [ArgsOk, ArgOk, argsD, argD, AC.toD, Value.oneCell', sl_flat, leaf_flat, li_flat, ls_flat, sl_agg, leaf_agg, li_agg, ls_agg, mo_t, mo_f, ln_acs, el_ln, getq_map, GPart.acs_eq, GPart.flat_eq, GPart.agg_eq, GPart.el, hinB]; done))
  all_goals exact endRet ⟨_, rfl, by first | rfl | (unfold kOk; simp [*]; done) | (unfold kOk; simp [*]; rfl), trivial⟩
set_option maxHeartbeats 4000000 in
theorem isRunnable_impl_k0 (l : List GPart) (z : Int) (hw : l.length + D.wts (l.map GPart.toD) ≤ 1048576) (hin : ¬ (0 ≤ z ∧ z.toNat < l.length)) : CallsTo Tryz.prog 19 [.sl (l.map GPart.toD), li z] (.c false [.raw (.bool false)]) := by
  have hn : l.length ≤ 1048576 := by omega
  refine calls_one (fn := Tryz.f19) (t := 4) (by kernel_rfl) (by kernel_rfl) (by kernel_rfl) ic_run_impl_ok ?_
  unfold ic_run_impl
  change AWP _ _ _ (st0 41 _)
  simp only [undef, stS, st0, stN, D.av, D.avN, sl_agg, leaf_agg, li_agg, ls_agg, sl_acs, leaf_acs, li_acs, ls_acs, ln_acs, el_ln, getq_map, GPart.acs_eq, GPart.flat_eq, GPart.agg_eq, GPart.el, List.map_cons, List.map_nil, List.replicate, List.cons_append, List.nil_append, List.length_cons, List.length_nil, Nat.reduceAdd, Nat.reduceSub]
  have hinB : inB z 0 ((l.length : Int) - 1) = false := by simp [inB]; omega
  repeat' (first | (with_reducible first | refine awp_seq ?_ | refine awp_block ?_ | refine awp_skip ?_ | refine awp_exit ?_ | refine awp_ret ?_ | refine athen ?_ | refine thenExit ?_ | refine thenRet ?_ | refine blockNormal ?_ | refine blockExit ?_ | refine blockRet ?_ | refine roundExit ?_ | refine roundRet ?_ | refine roundExitR ?_ | refine roundRetR ?_) | ((with_reducible refine blockPass ?_ ?_); rfl) | ((with_reducible refine awp_condT ?_ ?_); rfl) | ((with_reducible refine awp_condF ?_ ?_); rfl) | (with_reducible (refine awp_condS rfl ?_ ?_); all_goals (intro hb; have hb' := hb; (try simp only [pkC] at hb'); first | (exfalso; omega) | skip)) | ((with_reducible refine awp_reg ?_); intro K hK) | ((with_reducible refine sw_guardT ?_ ?_); rfl) | ((with_reducible refine sw_guardF ?_ ?_); rfl) | (with_reducible (refine sw_guardS rfl ?_ ?_); all_goals (intro hb; have hb' := hb; (try simp only [pkC] at hb'); first | (exfalso; omega) | skip)) | ((with_reducible refine hK _ ?_); clear hK K) | (with_reducible refine and_split ?_ ?_) | ((with_reducible refine ct_id ?_); first | (refine callThen (isDup_impl_t l z hn) trivial ?_ ?_) | (refine callThen (onCycle_impl_to l z hw) trivial ?_ ?_)) | ((with_reducible refine ctd_id ?_); first | (refine callThenD (isDup_impl_t l z hn) trivial ?_ ?_) | (refine callThenD (onCycle_impl_to l z hw) trivial ?_ ?_)) | ((with_reducible refine sw_id ?_); simp (disch := first | decide | omega) only [↓pkS, pkW, pkA, undef, capsOf, ex, St.put, St.ev, kav, gdA, opI, rawI, vbin, srcOf, avsD, acsD, AV.toD, AC.toD, AV.nw, AC.nw, AC.one, Value.oneCell', fillA, D.one, D.ones, D.sz, D.szs, Nat.reduceAdd, Nat.reduceSub, Nat.reduceLeDiff, Nat.reduceEqDiff, reduceIte, pkN, ln_acs, el_ln, getq_map, GPart.acs_eq, GPart.flat_eq, GPart.agg_eq, GPart.el, hinB]) | (first | (with_reducible rfl) | (with_reducible refine fnok_id ?_; kernel_rfl) | exact el_strs _ | exact el_ints _ | exact el_ln _ | exact el_tk _ _ | exact el_td _ _ _ | omega | (simp; done) | (simp; omega)) | ((with_reducible refine args_id ?_); simp [ArgsOk, ArgOk, argsD, argD, AC.toD, Value.oneCell', sl_flat, leaf_flat, li_flat, ls_flat, sl_agg, leaf_agg, li_agg, ls_agg, mo_t, mo_f, ln_acs, el_ln, getq_map, GPart.acs_eq, GPart.flat_eq, GPart.agg_eq, GPart.el, hinB]; done))
  all_goals exact endRet ⟨_, rfl, rfl, trivial⟩
theorem isRunnable_impl_to (l : List GPart) (z : Int) (hw : l.length + D.wts (l.map GPart.toD) ≤ 1048576) : CallsTo Tryz.prog 19 [.sl (l.map GPart.toD), li z] (.c false [.raw (.bool (runB l z))]) := by
  by_cases hin : 0 ≤ z ∧ z.toNat < l.length
  · have hr := runB_at l hin.1 hin.2
    by_cases hk : l[z.toNat].kind = 2
    · cases hd : dupB l z with
      | true =>
        have e : runB l z = false := by rw [hr, hd]; simp
        rw [e]; exact isRunnable_impl_k1a l z hw hin.1 hin.2 hk hd
      | false =>
        cases hcy : onC l z with
        | true =>
          have e : runB l z = false := by rw [hr, hcy]; simp
          rw [e]; exact isRunnable_impl_k2a l z hw hin.1 hin.2 hk hd hcy
        | false =>
          have e : runB l z = true := by rw [hr, hd, hcy]; unfold kOk; rw [hk]; rfl
          rw [e]; exact isRunnable_impl_k3a l z hw hin.1 hin.2 hk hd hcy
    · by_cases hk3 : l[z.toNat].kind = 3
      · cases hd : dupB l z with
        | true =>
          have e : runB l z = false := by rw [hr, hd]; simp
          rw [e]; exact isRunnable_impl_k1b l z hw hin.1 hin.2 hk3 hd
        | false =>
          cases hcy : onC l z with
          | true =>
            have e : runB l z = false := by rw [hr, hcy]; simp
            rw [e]; exact isRunnable_impl_k2b l z hw hin.1 hin.2 hk3 hd hcy
          | false =>
            have e : runB l z = true := by rw [hr, hd, hcy]; unfold kOk; rw [hk3]; rfl
            rw [e]; exact isRunnable_impl_k3b l z hw hin.1 hin.2 hk3 hd hcy
      · have e : runB l z = false := by rw [hr]; unfold kOk; simp [hk, hk3]
        rw [e]; exact isRunnable_impl_kc l z hw hin.1 hin.2 hk hk3
  · rw [runB_out l hin]; exact isRunnable_impl_k0 l z hw hin
theorem isRunnable_impl (l : List GPart) (z : Int) (r : Bool) (hr : runB l z = r) (fp : List Nat) (v : Value) (w : World) (hS : Sl w (l.map GPart.toD) fp v) (hw : l.length + D.wts (l.map GPart.toD) ≤ 1048576) : Calls Tryz.prog 19 #[v, .int .i64 z] w (RetB (.bool r) w) :=
  hr ▸ of_raw (isRunnable_impl_to l z hw) (vs := [v, .int .i64 z]) ⟨rd_of_sl hS, rd_of_leaf _, trivial⟩
end Go.Proofs.YtnfamcepojpkjaaGreat

namespace Go.Proofs.YtnfamcepojpkjaaGreat
open Go.RowKit
set_option linter.unusedSimpArgs false
set_option linter.unusedVariables false
noncomputable def needs (l : List GPart) (z : Int) : List Nat := (duI l z).filter fun k : Nat => runB l (k : Int)
theorem needs_len (l : List GPart) (z : Int) : (needs l z).length ≤ l.length := Nat.le_trans (List.length_filter_le _ _) (duI_len l z)
theorem needs_lt (l : List GPart) (z : Int) : ∀ x ∈ needs l z, x < l.length := fun x h => duI_lt l z x (List.mem_filter.1 h).1
theorem filt_t {α : Type} (p : α → Bool) (l : List α) {k : Nat} (h : k < l.length) (e : p l[k] = true) : (l.take (k + 1)).filter p = (l.take k).filter p ++ [l[k]] := by
  rw [List.take_succ_eq_append_getElem h, List.filter_append, List.filter_cons, if_pos e]; rfl
theorem filt_f {α : Type} (p : α → Bool) (l : List α) {k : Nat} (h : k < l.length) (e : p l[k] = false) : (l.take (k + 1)).filter p = (l.take k).filter p := by
  rw [List.take_succ_eq_append_getElem h, List.filter_append, List.filter_cons, if_neg (by simp [e])]; simp
def ic_needs_impl : IC := (.seq (.reg false [⟨(some 4), none, .mov (.k (.slice none 0 0))⟩]) (.seq (.reg false [⟨(some 8), none, .brow true 3 1 0 false []⟩, ⟨(some 5), none, .mov (.t 8)⟩]) (.seq (.seq (.reg false [⟨(some 9), none, .mov (.t 0)⟩, ⟨(some 10), none, .mov (.t 1)⟩, ⟨(some 11), none, .call 38 [(.t 9), (.t 10)]⟩, ⟨(some 12), none, .len false (.t 11)⟩, ⟨(some 13), none, .mov (.k (.int .i64 0))⟩]) (.block 0 (.loop (.seq (.reg false [⟨(some 14), none, .bin .lss (.t 13) (.t 12)⟩]) (.seq (.cond (.t 14) .skip (.exit 0)) (.seq (.block 1 (.seq (.reg false [⟨(some 15), none, .iad 1 (.t 11) (.t 13)⟩, ⟨(some 16), none, .load 1 false (.t 15)⟩, ⟨(some 7), none, .mov (.t 16)⟩]) (.seq (.reg false [⟨(some 17), none, .mov (.t 0)⟩, ⟨(some 18), none, .mov (.t 7)⟩, ⟨(some 19), none, .call 19 [(.t 17), (.t 18)]⟩]) (.cond (.t 19) (.reg false [⟨(some 20), none, .mov (.t 5)⟩, ⟨(some 21), none, .mov (.t 7)⟩, ⟨(some 22), none, .brow false 3 1 1 false [(.t 21)]⟩, ⟨(some 23), none, .app 3 1 (.t 20) (.t 22)⟩, ⟨(some 5), none, .mov (.t 23)⟩]) .skip)))) (.reg false [⟨(some 24), none, .bin .add (.t 13) (.k (.int .i64 1))⟩, ⟨(some 13), none, .mov (.t 24)⟩]))))))) (.seq (.reg false [⟨(some 25), none, .mov (.t 5)⟩, ⟨(some 4), none, .mov (.t 25)⟩]) .ret))))
theorem ic_needs_impl_ok : compC Tryz.prog (Tryz.f21.body.getD .skip) = some ic_needs_impl := by kernel_rfl
set_option maxHeartbeats 4000000 in
theorem needs_impl_to (l : List GPart) (z : Int) (hw : l.length + D.wts (l.map GPart.toD) ≤ 1048576) : CallsOwn Tryz.prog 21 [.sl (l.map GPart.toD), li z] ((needs l z).map ln) 3 1 := by
  have hn : l.length ≤ 1048576 := by omega
  have hdl := duI_len l z
  have hdu := directUses_impl_to l z hw
  unfold needs
  obtain ⟨D0, hD⟩ : ∃ D0, duI l z = D0 := ⟨_, rfl⟩
  rw [hD] at hdl hdu ⊢
  clear hD
  refine calls_own (fn := Tryz.f21) (t := 4) (by kernel_rfl) (by kernel_rfl) (by kernel_rfl) ic_needs_impl_ok ?_
  unfold ic_needs_impl
  change AWP _ _ _ (st0 26 _)
  simp only [undef, stS, st0, stN, D.av, D.avN, sl_agg, leaf_agg, li_agg, ls_agg, sl_acs, leaf_acs, li_acs, ls_acs, ln_acs, el_ln, getq_map, GPart.acs_eq, GPart.flat_eq, GPart.agg_eq, GPart.el, List.map_cons, List.map_nil, List.replicate, List.cons_append, List.nil_append, List.length_cons, List.length_nil, Nat.reduceAdd, Nat.reduceSub]
  repeat' (first | (with_reducible first | refine awp_seq ?_ | refine awp_block ?_ | refine awp_skip ?_ | refine awp_exit ?_ | refine awp_ret ?_ | refine athen ?_ | refine thenExit ?_ | refine thenRet ?_ | refine blockNormal ?_ | refine blockExit ?_ | refine blockRet ?_ | refine roundExit ?_ | refine roundRet ?_ | refine roundExitR ?_ | refine roundRetR ?_) | ((with_reducible refine blockPass ?_ ?_); rfl) | ((with_reducible refine awp_condT ?_ ?_); rfl) | ((with_reducible refine awp_condF ?_ ?_); rfl) | (with_reducible (refine awp_condS rfl ?_ ?_); all_goals (intro hb; have hb' := hb; (try simp only [pkC] at hb'); first | (exfalso; omega) | skip)) | ((with_reducible refine awp_reg ?_); intro K hK) | ((with_reducible refine sw_guardT ?_ ?_); rfl) | ((with_reducible refine sw_guardF ?_ ?_); rfl) | (with_reducible (refine sw_guardS rfl ?_ ?_); all_goals (intro hb; have hb' := hb; (try simp only [pkC] at hb'); first | (exfalso; omega) | skip)) | ((with_reducible refine hK _ ?_); clear hK K) | (with_reducible refine and_split ?_ ?_) | ((with_reducible refine ct_id ?_); first | (refine callOwn hdu (el_ln _) ?_ ?_)) | ((with_reducible refine sw_id ?_); simp (disch := first | decide | omega) only [↓pkS, pkW, pkA, undef, capsOf, ex, St.put, St.ev, kav, gdA, opI, rawI, vbin, srcOf, avsD, acsD, AV.toD, AC.toD, AV.nw, AC.nw, AC.one, Value.oneCell', fillA, D.one, D.ones, D.sz, D.szs, Nat.reduceAdd, Nat.reduceSub, Nat.reduceLeDiff, Nat.reduceEqDiff, reduceIte, pkN, ln_acs, el_ln, getq_map, GPart.acs_eq, GPart.flat_eq, GPart.agg_eq, GPart.el]) | (first | (with_reducible rfl) | (with_reducible refine fnok_id ?_; kernel_rfl) | exact el_strs _ | exact el_ints _ | exact el_ln _ | exact el_tk _ _ | exact el_td _ _ _ | omega | (simp; done) | (simp; omega)) | ((with_reducible refine args_id ?_); simp [ArgsOk, ArgOk, argsD, argD, AC.toD, Value.oneCell', sl_flat, leaf_flat, li_flat, ls_flat, sl_agg, leaf_agg, li_agg, ls_agg, mo_t, mo_f, ln_acs, el_ln, getq_map, GPart.acs_eq, GPart.flat_eq, GPart.agg_eq, GPart.el]; done))
  refine awp_loopB (X := Nat × Nat) (fun q => [.k, .d, .d, .d, .d, .v (.c false [.own 0 q.2]), .d, .d, .d, .d, .d, .k, .k, .v (.c false [.raw (.int .i64 (q.1 : Nat))]), .d, .d, .d, .d, .d, .d, .d, .d, .d, .d, .d, .d]) (fun q => [⟨((D0.take q.1).filter fun k : Nat => runB l (k : Int)).map ln, 3, 1, q.2, true⟩, ⟨D0.map ln, 3, 1, 0, true⟩]) (fun q bs => bs) (fun q => q.1 ≤ D0.length) (fun q => D0.length - q.1) (0, 0) (Nat.zero_le _) ?_ ?_
  · simp [StLe', FrLe, OwnLe, BoxLe, AV.fits, AC.fits, FB, mask]
  rintro ⟨k, v⟩ hk
  have hk' : k ≤ D0.length := hk
  clear hk
  have hfl : ((D0.take k).filter fun k : Nat => runB l (k : Int)).length ≤ D0.length := Nat.le_trans (List.length_filter_le _ _) (by rw [List.length_take]; omega)
  simp only [FB, mask]
  by_cases hlk : k < D0.length
  · have hrun := isRunnable_impl_to l (D0[k] : Int) hw
    cases hh : runB l ((D0[k] : Nat) : Int) with
    | true =>
      have hs := filt_t (fun k : Nat => runB l (k : Int)) D0 hlk hh
      repeat' (first | (with_reducible first | refine awp_seq ?_ | refine awp_block ?_ | refine awp_skip ?_ | refine awp_exit ?_ | refine awp_ret ?_ | refine athen ?_ | refine thenExit ?_ | refine thenRet ?_ | refine blockNormal ?_ | refine blockExit ?_ | refine blockRet ?_ | refine roundExit ?_ | refine roundRet ?_ | refine roundExitR ?_ | refine roundRetR ?_) | ((with_reducible refine blockPass ?_ ?_); rfl) | ((with_reducible refine awp_condT ?_ ?_); rfl) | ((with_reducible refine awp_condF ?_ ?_); rfl) | (with_reducible (refine awp_condS rfl ?_ ?_); all_goals (intro hb; have hb' := hb; (try simp only [pkC] at hb'); first | (exfalso; omega) | skip)) | ((with_reducible refine awp_reg ?_); intro K hK) | ((with_reducible refine sw_guardT ?_ ?_); rfl) | ((with_reducible refine sw_guardF ?_ ?_); rfl) | (with_reducible (refine sw_guardS rfl ?_ ?_); all_goals (intro hb; have hb' := hb; (try simp only [pkC] at hb'); first | (exfalso; omega) | skip)) | ((with_reducible refine hK _ ?_); clear hK K) | (with_reducible refine and_split ?_ ?_) | ((with_reducible refine ct_id ?_); first | (refine callThen hrun trivial ?_ ?_)) | ((with_reducible refine ctd_id ?_); first | (refine callThenD hrun trivial ?_ ?_)) | ((with_reducible refine sw_id ?_); simp (disch := first | decide | omega) only [↓pkS, pkW, pkA, undef, capsOf, ex, St.put, St.ev, kav, gdA, opI, rawI, vbin, srcOf, avsD, acsD, AV.toD, AC.toD, AV.nw, AC.nw, AC.one, Value.oneCell', fillA, D.one, D.ones, D.sz, D.szs, Nat.reduceAdd, Nat.reduceSub, Nat.reduceLeDiff, Nat.reduceEqDiff, reduceIte, pkN, ln_acs, el_ln, getq_map, GPart.acs_eq, GPart.flat_eq, GPart.agg_eq, GPart.el, hh]) | (first | (with_reducible rfl) | (with_reducible refine fnok_id ?_; kernel_rfl) | exact el_strs _ | exact el_ints _ | exact el_ln _ | exact el_tk _ _ | exact el_td _ _ _ | omega | (simp; done) | (simp; omega)) | ((with_reducible refine args_id ?_); simp [ArgsOk, ArgOk, argsD, argD, AC.toD, Value.oneCell', sl_flat, leaf_flat, li_flat, ls_flat, sl_agg, leaf_agg, li_agg, ls_agg, mo_t, mo_f, ln_acs, el_ln, getq_map, GPart.acs_eq, GPart.flat_eq, GPart.agg_eq, GPart.el, hh]; done))
      all_goals first
        | (simp only [List.length_map, List.length_append, List.length_cons, List.length_nil]; omega)
        | (refine roundB (k + 1, v + 1) ?_ (show k + 1 ≤ D0.length by omega) (show D0.length - (k + 1) < D0.length - k by omega)
           simp [StLe', FrLe, OwnLe, BoxLe, AV.fits, AC.fits, FB, mask, hs, ln, li])
    | false =>
      have hs := filt_f (fun k : Nat => runB l (k : Int)) D0 hlk hh
      repeat' (first | (with_reducible first | refine awp_seq ?_ | refine awp_block ?_ | refine awp_skip ?_ | refine awp_exit ?_ | refine awp_ret ?_ | refine athen ?_ | refine thenExit ?_ | refine thenRet ?_ | refine blockNormal ?_ | refine blockExit ?_ | refine blockRet ?_ | refine roundExit ?_ | refine roundRet ?_ | refine roundExitR ?_ | refine roundRetR ?_) | ((with_reducible refine blockPass ?_ ?_); rfl) | ((with_reducible refine awp_condT ?_ ?_); rfl) | ((with_reducible refine awp_condF ?_ ?_); rfl) | (with_reducible (refine awp_condS rfl ?_ ?_); all_goals (intro hb; have hb' := hb; (try simp only [pkC] at hb'); first | (exfalso; omega) | skip)) | ((with_reducible refine awp_reg ?_); intro K hK) | ((with_reducible refine sw_guardT ?_ ?_); rfl) | ((with_reducible refine sw_guardF ?_ ?_); rfl) | (with_reducible (refine sw_guardS rfl ?_ ?_); all_goals (intro hb; have hb' := hb; (try simp only [pkC] at hb'); first | (exfalso; omega) | skip)) | ((with_reducible refine hK _ ?_); clear hK K) | (with_reducible refine and_split ?_ ?_) | ((with_reducible refine ct_id ?_); first | (refine callThen hrun trivial ?_ ?_)) | ((with_reducible refine ctd_id ?_); first | (refine callThenD hrun trivial ?_ ?_)) | ((with_reducible refine sw_id ?_); simp (disch := first | decide | omega) only [↓pkS, pkW, pkA, undef, capsOf, ex, St.put, St.ev, kav, gdA, opI, rawI, vbin, srcOf, avsD, acsD, AV.toD, AC.toD, AV.nw, AC.nw, AC.one, Value.oneCell', fillA, D.one, D.ones, D.sz, D.szs, Nat.reduceAdd, Nat.reduceSub, Nat.reduceLeDiff, Nat.reduceEqDiff, reduceIte, pkN, ln_acs, el_ln, getq_map, GPart.acs_eq, GPart.flat_eq, GPart.agg_eq, GPart.el, hh]) | (first | (with_reducible rfl) | (with_reducible refine fnok_id ?_; kernel_rfl) | exact el_strs _ | exact el_ints _ | exact el_ln _ | exact el_tk _ _ | exact el_td _ _ _ | omega | (simp; done) | (simp; omega)) | ((with_reducible refine args_id ?_); simp [ArgsOk, ArgOk, argsD, argD, AC.toD, Value.oneCell', sl_flat, leaf_flat, li_flat, ls_flat, sl_agg, leaf_agg, li_agg, ls_agg, mo_t, mo_f, ln_acs, el_ln, getq_map, GPart.acs_eq, GPart.flat_eq, GPart.agg_eq, GPart.el, hh]; done))
      all_goals first
        | (simp only [List.length_map, List.length_append, List.length_cons, List.length_nil]; omega)
        | (refine roundB (k + 1, v) ?_ (show k + 1 ≤ D0.length by omega) (show D0.length - (k + 1) < D0.length - k by omega)
           simp [StLe', FrLe, OwnLe, BoxLe, AV.fits, AC.fits, FB, mask, hs])
  · obtain rfl : k = D0.length := by omega
    repeat' (first | (with_reducible first | refine awp_seq ?_ | refine awp_block ?_ | refine awp_skip ?_ | refine awp_exit ?_ | refine awp_ret ?_ | refine athen ?_ | refine thenExit ?_ | refine thenRet ?_ | refine blockNormal ?_ | refine blockExit ?_ | refine blockRet ?_ | refine roundExit ?_ | refine roundRet ?_ | refine roundExitR ?_ | refine roundRetR ?_) | ((with_reducible refine blockPass ?_ ?_); rfl) | ((with_reducible refine awp_condT ?_ ?_); rfl) | ((with_reducible refine awp_condF ?_ ?_); rfl) | (with_reducible (refine awp_condS rfl ?_ ?_); all_goals (intro hb; have hb' := hb; (try simp only [pkC] at hb'); first | (exfalso; omega) | skip)) | ((with_reducible refine awp_reg ?_); intro K hK) | ((with_reducible refine sw_guardT ?_ ?_); rfl) | ((with_reducible refine sw_guardF ?_ ?_); rfl) | (with_reducible (refine sw_guardS rfl ?_ ?_); all_goals (intro hb; have hb' := hb; (try simp only [pkC] at hb'); first | (exfalso; omega) | skip)) | ((with_reducible refine hK _ ?_); clear hK K) | (with_reducible refine and_split ?_ ?_) | ((with_reducible refine sw_id ?_); simp (disch := first | decide | omega) only [↓pkS, pkW, pkA, undef, capsOf, ex, St.put, St.ev, kav, gdA, opI, rawI, vbin, srcOf, avsD, acsD, AV.toD, AC.toD, AV.nw, AC.nw, AC.one, Value.oneCell', fillA, D.one, D.ones, D.sz, D.szs, Nat.reduceAdd, Nat.reduceSub, Nat.reduceLeDiff, Nat.reduceEqDiff, reduceIte, pkN, ln_acs, el_ln, getq_map, GPart.acs_eq, GPart.flat_eq, GPart.agg_eq, GPart.el]) | (first | (with_reducible rfl) | (with_reducible refine fnok_id ?_; kernel_rfl) | exact el_strs _ | exact el_ints _ | exact el_ln _ | exact el_tk _ _ | exact el_td _ _ _ | omega | (simp; done) | (simp; omega)) | ((with_reducible refine args_id ?_); simp [ArgsOk, ArgOk, argsD, argD, AC.toD, Value.oneCell', sl_flat, leaf_flat, li_flat, ls_flat, sl_agg, leaf_agg, li_agg, ls_agg, mo_t, mo_f, ln_acs, el_ln, getq_map, GPart.acs_eq, GPart.flat_eq, GPart.agg_eq, GPart.el]; done))
    exact endRet ⟨0, _, _, rfl, rfl, rfl, by simp, rfl, rfl, Or.inl rfl⟩
/-! ### All of them in a list -/
def allB (ns : List Nat) (o : List Int) : Bool := ns.all fun k => hasZ o (k : Int)
theorem allB_at {ns : List Nat} {o : List Int} {k : Nat} (h : k < ns.length) (e : hasZ o (ns[k] : Int) = false) : allB ns o = false := by
  rw [Bool.eq_false_iff]
  intro hall
  have := List.all_eq_true.1 hall ns[k] (List.getElem_mem h)
  rw [e] at this
  cases this
theorem allB_take (ns : List Nat) (o : List Int) {k : Nat} (h : k < ns.length) : allB (ns.take (k + 1)) o = (allB (ns.take k) o && hasZ o (ns[k] : Int)) := by
  unfold allB
  rw [List.take_succ_eq_append_getElem h, List.all_append]
  simp
def ic_all_impl : IC := (.seq (.reg false [⟨(some 4), none, .mov (.k (.bool false))⟩]) (.seq (.seq (.reg false [⟨(some 7), none, .mov (.t 0)⟩, ⟨(some 8), none, .len false (.t 7)⟩, ⟨(some 9), none, .mov (.k (.int .i64 0))⟩]) (.block 0 (.loop (.seq (.reg false [⟨(some 10), none, .bin .lss (.t 9) (.t 8)⟩]) (.seq (.cond (.t 10) .skip (.exit 0)) (.seq (.block 1 (.seq (.reg false [⟨(some 11), none, .iad 1 (.t 7) (.t 9)⟩, ⟨(some 12), none, .load 1 false (.t 11)⟩, ⟨(some 6), none, .mov (.t 12)⟩]) (.seq (.reg false [⟨(some 13), none, .mov (.t 1)⟩, ⟨(some 14), none, .mov (.t 6)⟩, ⟨(some 15), none, .call 18 [(.t 13), (.t 14)]⟩, ⟨(some 16), none, .not (.t 15)⟩]) (.cond (.t 16) (.seq (.reg false [⟨(some 4), none, .mov (.k (.bool false))⟩]) .ret) .skip)))) (.reg false [⟨(some 17), none, .bin .add (.t 9) (.k (.int .i64 1))⟩, ⟨(some 9), none, .mov (.t 17)⟩]))))))) (.seq (.reg false [⟨(some 4), none, .mov (.k (.bool true))⟩]) .ret)))
theorem ic_all_impl_ok : compC Tryz.prog (Tryz.f20.body.getD .skip) = some ic_all_impl := by kernel_rfl
set_option maxHeartbeats 4000000 in
theorem allB_impl_to (ns : List Nat) (o : List Int) (h1 : ns.length ≤ 4194304) (h2 : o.length ≤ 4194304) : CallsTo Tryz.prog 20 [.sl (ns.map ln), .sl (o.map li)] (.c false [.raw (.bool (allB ns o))]) := by
  refine calls_one (fn := Tryz.f20) (t := 4) (by kernel_rfl) (by kernel_rfl) (by kernel_rfl) ic_all_impl_ok ?_
  unfold ic_all_impl
  change AWP _ _ _ (st0 18 _)
  simp only [undef, stS, st0, stN, D.av, D.avN, sl_agg, leaf_agg, li_agg, ls_agg, sl_acs, leaf_acs, li_acs, ls_acs, ln_acs, el_ln, getq_map, GPart.acs_eq, GPart.flat_eq, GPart.agg_eq, GPart.el, List.map_cons, List.map_nil, List.replicate, List.cons_append, List.nil_append, List.length_cons, List.length_nil, Nat.reduceAdd, Nat.reduceSub]
  repeat' (first | (with_reducible first | refine awp_seq ?_ | refine awp_block ?_ | refine awp_skip ?_ | refine awp_exit ?_ | refine awp_ret ?_ | refine athen ?_ | refine thenExit ?_ | refine thenRet ?_ | refine blockNormal ?_ | refine blockExit ?_ | refine blockRet ?_ | refine roundExit ?_ | refine roundRet ?_ | refine roundExitR ?_ | refine roundRetR ?_) | ((with_reducible refine blockPass ?_ ?_); rfl) | ((with_reducible refine awp_condT ?_ ?_); rfl) | ((with_reducible refine awp_condF ?_ ?_); rfl) | (with_reducible (refine awp_condS rfl ?_ ?_); all_goals (intro hb; have hb' := hb; (try simp only [pkC] at hb'); first | (exfalso; omega) | skip)) | ((with_reducible refine awp_reg ?_); intro K hK) | ((with_reducible refine sw_guardT ?_ ?_); rfl) | ((with_reducible refine sw_guardF ?_ ?_); rfl) | (with_reducible (refine sw_guardS rfl ?_ ?_); all_goals (intro hb; have hb' := hb; (try simp only [pkC] at hb'); first | (exfalso; omega) | skip)) | ((with_reducible refine hK _ ?_); clear hK K) | (with_reducible refine and_split ?_ ?_) | ((with_reducible refine sw_id ?_); simp (disch := first | decide | omega) only [↓pkS, pkW, pkA, undef, capsOf, ex, St.put, St.ev, kav, gdA, opI, rawI, vbin, srcOf, avsD, acsD, AV.toD, AC.toD, AV.nw, AC.nw, AC.one, Value.oneCell', fillA, D.one, D.ones, D.sz, D.szs, Nat.reduceAdd, Nat.reduceSub, Nat.reduceLeDiff, Nat.reduceEqDiff, reduceIte, pkN, ln_acs, el_ln, getq_map, GPart.acs_eq, GPart.flat_eq, GPart.agg_eq, GPart.el]) | (first | (with_reducible rfl) | (with_reducible refine fnok_id ?_; kernel_rfl) | exact el_strs _ | exact el_ints _ | exact el_ln _ | exact el_tk _ _ | exact el_td _ _ _ | omega | (simp; done) | (simp; omega)) | ((with_reducible refine args_id ?_); simp [ArgsOk, ArgOk, argsD, argD, AC.toD, Value.oneCell', sl_flat, leaf_flat, li_flat, ls_flat, sl_agg, leaf_agg, li_agg, ls_agg, mo_t, mo_f, ln_acs, el_ln, getq_map, GPart.acs_eq, GPart.flat_eq, GPart.agg_eq, GPart.el]; done))
  refine awp_loopB (X := Nat) (fun q => [.d, .k, .d, .d, .d, .d, .d, .k, .k, .v (.c false [.raw (.int .i64 (q : Nat))]), .d, .d, .d, .d, .d, .d, .d, .d]) (fun q => []) (fun q bs => []) (fun q => q ≤ ns.length ∧ allB (ns.take q) o = true) (fun q => ns.length - q) 0 ⟨Nat.zero_le _, by simp [allB]⟩ ?_ ?_
  · simp [StLe', FrLe, OwnLe, BoxLe, AV.fits, AC.fits, FB, mask]
  rintro k ⟨hk, hf⟩
  simp only [FB, mask]
  by_cases hlt : k < ns.length
  · cases he : hasZ o (ns[k] : Int) with
    | false =>
      have ht := allB_at hlt he
      repeat' (first | (with_reducible first | refine awp_seq ?_ | refine awp_block ?_ | refine awp_skip ?_ | refine awp_exit ?_ | refine awp_ret ?_ | refine athen ?_ | refine thenExit ?_ | refine thenRet ?_ | refine blockNormal ?_ | refine blockExit ?_ | refine blockRet ?_ | refine roundExit ?_ | refine roundRet ?_ | refine roundExitR ?_ | refine roundRetR ?_) | ((with_reducible refine blockPass ?_ ?_); rfl) | ((with_reducible refine awp_condT ?_ ?_); rfl) | ((with_reducible refine awp_condF ?_ ?_); rfl) | (with_reducible (refine awp_condS rfl ?_ ?_); all_goals (intro hb; have hb' := hb; (try simp only [pkC] at hb'); first | (exfalso; omega) | skip)) | ((with_reducible refine awp_reg ?_); intro K hK) | ((with_reducible refine sw_guardT ?_ ?_); rfl) | ((with_reducible refine sw_guardF ?_ ?_); rfl) | (with_reducible (refine sw_guardS rfl ?_ ?_); all_goals (intro hb; have hb' := hb; (try simp only [pkC] at hb'); first | (exfalso; omega) | skip)) | ((with_reducible refine hK _ ?_); clear hK K) | (with_reducible refine and_split ?_ ?_) | ((with_reducible refine ct_id ?_); first | (refine callThen (hasIntZ_to o (ns[k] : Int) h2) trivial ?_ ?_)) | ((with_reducible refine ctd_id ?_); first | (refine callThenD (hasIntZ_to o (ns[k] : Int) h2) trivial ?_ ?_)) | ((with_reducible refine sw_id ?_); simp (disch := first | decide | omega) only [↓pkS, pkW, pkA, undef, capsOf, ex, St.put, St.ev, kav, gdA, opI, rawI, vbin, srcOf, avsD, acsD, AV.toD, AC.toD, AV.nw, AC.nw, AC.one, Value.oneCell', fillA, D.one, D.ones, D.sz, D.szs, Nat.reduceAdd, Nat.reduceSub, Nat.reduceLeDiff, Nat.reduceEqDiff, reduceIte, pkN, ln_acs, el_ln, getq_map, GPart.acs_eq, GPart.flat_eq, GPart.agg_eq, GPart.el, he]) | (first | (with_reducible rfl) | (with_reducible refine fnok_id ?_; kernel_rfl) | exact el_strs _ | exact el_ints _ | exact el_ln _ | exact el_tk _ _ | exact el_td _ _ _ | omega | (simp; done) | (simp; omega)) | ((with_reducible refine args_id ?_); simp [ArgsOk, ArgOk, argsD, argD, AC.toD, Value.oneCell', sl_flat, leaf_flat, li_flat, ls_flat, sl_agg, leaf_agg, li_agg, ls_agg, mo_t, mo_f, ln_acs, el_ln, getq_map, GPart.acs_eq, GPart.flat_eq, GPart.agg_eq, GPart.el, he]; done))
      exact endRet ⟨_, rfl, by rw [ht]; rfl, trivial⟩
    | true =>
      have ht := allB_take ns o hlt
      rw [hf, he] at ht
      repeat' (first | (with_reducible first | refine awp_seq ?_ | refine awp_block ?_ | refine awp_skip ?_ | refine awp_exit ?_ | refine awp_ret ?_ | refine athen ?_ | refine thenExit ?_ | refine thenRet ?_ | refine blockNormal ?_ | refine blockExit ?_ | refine blockRet ?_ | refine roundExit ?_ | refine roundRet ?_ | refine roundExitR ?_ | refine roundRetR ?_) | ((with_reducible refine blockPass ?_ ?_); rfl) | ((with_reducible refine awp_condT ?_ ?_); rfl) | ((with_reducible refine awp_condF ?_ ?_); rfl) | (with_reducible (refine awp_condS rfl ?_ ?_); all_goals (intro hb; have hb' := hb; (try simp only [pkC] at hb'); first | (exfalso; omega) | skip)) | ((with_reducible refine awp_reg ?_); intro K hK) | ((with_reducible refine sw_guardT ?_ ?_); rfl) | ((with_reducible refine sw_guardF ?_ ?_); rfl) | (with_reducible (refine sw_guardS rfl ?_ ?_); all_goals (intro hb; have hb' := hb; (try simp only [pkC] at hb'); first | (exfalso; omega) | skip)) | ((with_reducible refine hK _ ?_); clear hK K) | (with_reducible refine and_split ?_ ?_) | ((with_reducible refine ct_id ?_); first | (refine callThen (hasIntZ_to o (ns[k] : Int) h2) trivial ?_ ?_)) | ((with_reducible refine ctd_id ?_); first | (refine callThenD (hasIntZ_to o (ns[k] : Int) h2) trivial ?_ ?_)) | ((with_reducible refine sw_id ?_); simp (disch := first | decide | omega) only [↓pkS, pkW, pkA, undef, capsOf, ex, St.put, St.ev, kav, gdA, opI, rawI, vbin, srcOf, avsD, acsD, AV.toD, AC.toD, AV.nw, AC.nw, AC.one, Value.oneCell', fillA, D.one, D.ones, D.sz, D.szs, Nat.reduceAdd, Nat.reduceSub, Nat.reduceLeDiff, Nat.reduceEqDiff, reduceIte, pkN, ln_acs, el_ln, getq_map, GPart.acs_eq, GPart.flat_eq, GPart.agg_eq, GPart.el, he]) | (first | (with_reducible rfl) | (with_reducible refine fnok_id ?_; kernel_rfl) | exact el_strs _ | exact el_ints _ | exact el_ln _ | exact el_tk _ _ | exact el_td _ _ _ | omega | (simp; done) | (simp; omega)) | ((with_reducible refine args_id ?_); simp [ArgsOk, ArgOk, argsD, argD, AC.toD, Value.oneCell', sl_flat, leaf_flat, li_flat, ls_flat, sl_agg, leaf_agg, li_agg, ls_agg, mo_t, mo_f, ln_acs, el_ln, getq_map, GPart.acs_eq, GPart.flat_eq, GPart.agg_eq, GPart.el, he]; done))
      refine roundB (k + 1) ?_ ⟨by omega, ht⟩ (show ns.length - (k + 1) < ns.length - k by omega)
      simp [StLe', FrLe, OwnLe, BoxLe, AV.fits, AC.fits, FB, mask]
  · obtain rfl : k = ns.length := by omega
    rw [List.take_length] at hf
    repeat' (first | (with_reducible first | refine awp_seq ?_ | refine awp_block ?_ | refine awp_skip ?_ | refine awp_exit ?_ | refine awp_ret ?_ | refine athen ?_ | refine thenExit ?_ | refine thenRet ?_ | refine blockNormal ?_ | refine blockExit ?_ | refine blockRet ?_ | refine roundExit ?_ | refine roundRet ?_ | refine roundExitR ?_ | refine roundRetR ?_) | ((with_reducible refine blockPass ?_ ?_); rfl) | ((with_reducible refine awp_condT ?_ ?_); rfl) | ((with_reducible refine awp_condF ?_ ?_); rfl) | (with_reducible (refine awp_condS rfl ?_ ?_); all_goals (intro hb; have hb' := hb; (try simp only [pkC] at hb'); first | (exfalso; omega) | skip)) | ((with_reducible refine awp_reg ?_); intro K hK) | ((with_reducible refine sw_guardT ?_ ?_); rfl) | ((with_reducible refine sw_guardF ?_ ?_); rfl) | (with_reducible (refine sw_guardS rfl ?_ ?_); all_goals (intro hb; have hb' := hb; (try simp only [pkC] at hb'); first | (exfalso; omega) | skip)) | ((with_reducible refine hK _ ?_); clear hK K) | (with_reducible refine and_split ?_ ?_) | ((with_reducible refine sw_id ?_); simp (disch := first | decide | omega) only [↓pkS, pkW, pkA, undef, capsOf, ex, St.put, St.ev, kav, gdA, opI, rawI, vbin, srcOf, avsD, acsD, AV.toD, AC.toD, AV.nw, AC.nw, AC.one, Value.oneCell', fillA, D.one, D.ones, D.sz, D.szs, Nat.reduceAdd, Nat.reduceSub, Nat.reduceLeDiff, Nat.reduceEqDiff, reduceIte, pkN, ln_acs, el_ln, getq_map, GPart.acs_eq, GPart.flat_eq, GPart.agg_eq, GPart.el]) | (first | (with_reducible rfl) | (with_reducible refine fnok_id ?_; kernel_rfl) | exact el_strs _ | exact el_ints _ | exact el_ln _ | exact el_tk _ _ | exact el_td _ _ _ | omega | (simp; done) | (simp; omega)) | ((with_reducible refine args_id ?_); simp [ArgsOk, ArgOk, argsD, argD, AC.toD, Value.oneCell', sl_flat, leaf_flat, li_flat, ls_flat, sl_agg, leaf_agg, li_agg, ls_agg, mo_t, mo_f, ln_acs, el_ln, getq_map, GPart.acs_eq, GPart.flat_eq, GPart.agg_eq, GPart.el]; done))
    exact endRet ⟨_, rfl, by rw [hf]; rfl, trivial⟩
end Go.Proofs.YtnfamcepojpkjaaGreat

namespace Go.Proofs.YtnfamcepojpkjaaGreat
open Go.RowKit
set_option linter.unusedSimpArgs false
set_option linter.unusedVariables false
/-! ### Orders -/
def okAt (R : Int → Bool) (M : Int → List Int → Bool) (o : List Int) (k : Nat) : Bool :=
  match o[k]? with
  | some z => R z && !hasZ (o.take k) z && M z (o.take k)
  | none => true
def okTo (R : Int → Bool) (M : Int → List Int → Bool) (o : List Int) : Nat → Bool
  | 0 => true
  | k + 1 => okTo R M o k && okAt R M o k
theorem okAt_at {R : Int → Bool} {M : Int → List Int → Bool} {o : List Int} {k : Nat} (h : k < o.length) : okAt R M o k = (R o[k] && !hasZ (o.take k) o[k] && M o[k] (o.take k)) := by
  unfold okAt; rw [List.getElem?_eq_getElem h]
theorem okTo_mono {R : Int → Bool} {M : Int → List Int → Bool} {o : List Int} : ∀ {k n : Nat}, k ≤ n → okTo R M o n = true → okTo R M o k = true
  | k, 0, h, h1 => by obtain rfl : k = 0 := by omega
                      exact h1
  | k, n + 1, h, h1 => by
    rcases Nat.lt_or_ge k (n + 1) with h2 | h2
    · simp only [okTo, Bool.and_eq_true] at h1
      exact okTo_mono (by omega) h1.1
    · obtain rfl : k = n + 1 := by omega
      exact h1
theorem okTo_not {R : Int → Bool} {M : Int → List Int → Bool} {o : List Int} {k : Nat} (h : k < o.length) (e : okAt R M o k = false) : okTo R M o o.length = false := by
  rw [Bool.eq_false_iff]
  intro h1
  have h2 := okTo_mono (k := k + 1) h h1
  simp only [okTo, Bool.and_eq_true, e] at h2
  exact absurd h2.2 (by simp)
/-- Counted: those with p that are not yet in the list. -/
theorem cnt_lack {R : Int → Bool} {M : Int → List Int → Bool} {N : Nat} (hR : ∀ z, R z = true → 0 ≤ z ∧ z.toNat < N) {o : List Int} : ∀ {k : Nat}, k ≤ o.length → okTo R M o k = true → sumF (fun x => R x && !hasZ (o.take k) x) (fun _ => 1) N + k = sumF (fun x => R x) (fun _ => 1) N
  | 0, _, _ => by
    rw [sumF_congr (q := fun x => R x)]
    · rfl
    · intro x _; simp [hasZ]
  | k + 1, hk, h => by
    simp only [okTo, Bool.and_eq_true] at h
    have ih := cnt_lack hR (k := k) (by omega) h.1
    have h2 := h.2
    rw [okAt_at (by omega)] at h2
    simp only [Bool.and_eq_true, Bool.not_eq_true'] at h2
    obtain ⟨h0, hN⟩ := hR _ h2.1.1
    have e : ((o[k].toNat : Nat) : Int) = o[k] := by omega
    have := sumF_one (p := fun x => R x && !hasZ (o.take k) x) (q := fun x => R x && !hasZ (o.take (k + 1)) x) (g := fun _ => 1) (k := o[k].toNat) (n := N) (by simp only [e, h2.1.1, h2.1.2]; rfl) (by
        simp only [e]
        have : hasZ (o.take (k + 1)) o[k] = true := hasZ_iff.2 (by rw [List.take_succ_eq_append_getElem (by omega)]; exact List.mem_append_right _ (List.mem_singleton.2 rfl))
        rw [this]; simp) (fun x hx => by
        have : hasZ (o.take (k + 1)) (x : Int) = hasZ (o.take k) x := by
          unfold hasZ
          rw [List.take_succ_eq_append_getElem (by omega), List.any_append]
          have : (o[k] == (x : Int)) = false := by
            rw [beq_eq_false_iff_ne]; intro e'; apply hx; omega
          simp [this]
        rw [this]) hN
    omega
theorem sumF_none {p : Nat → Bool} : ∀ {n : Nat}, sumF p (fun _ => 1) n = 0 ↔ ∀ x, x < n → p x = false
  | 0 => by simp [sumF]
  | n + 1 => by
    simp only [sumF]
    constructor
    · intro h x hx
      cases hp : p n with
      | true => rw [hp] at h; simp at h
      | false =>
        rcases Nat.lt_or_ge x n with h' | h'
        · exact sumF_none.1 (by omega) x h'
        · obtain rfl : x = n := by omega
          exact hp
    · intro h
      rw [sumF_none.2 (fun x hx => h x (by omega)), h n (by omega)]; simp
theorem sumF_le1 {p : Nat → Bool} : ∀ {n : Nat}, sumF p (fun _ => 1) n ≤ n
  | 0 => Nat.le_refl _
  | n + 1 => by
    have := sumF_le1 (p := p) (n := n)
    simp only [sumF]; split <;> omega
theorem okTo_len {R : Int → Bool} {M : Int → List Int → Bool} {N : Nat} (hR : ∀ z, R z = true → 0 ≤ z ∧ z.toNat < N) {o : List Int} {k : Nat} (hk : k ≤ o.length) (h : okTo R M o k = true) : k ≤ N := by
  have := cnt_lack hR hk h
  have := sumF_le1 (p := fun x => R (x : Int)) (n := N)
  omega
/-- All of those with R stand in the list. -/
def allR (R : Int → Bool) (o : List Int) : Nat → Bool
  | 0 => true
  | k + 1 => allR R o k && (!R k || hasZ o k)
theorem allR_iff {R : Int → Bool} {o : List Int} : ∀ {n : Nat}, allR R o n = true ↔ ∀ x : Nat, x < n → (R x && !hasZ o x) = false
  | 0 => by simp [allR]
  | n + 1 => by
    simp only [allR, Bool.and_eq_true, allR_iff (n := n)]
    constructor
    · rintro ⟨h1, h2⟩ x hx
      rcases Nat.lt_or_ge x n with h' | h'
      · exact h1 x h'
      · obtain rfl : x = n := by omega
        revert h2; cases R (x : Int) <;> cases hasZ o x <;> simp
    · intro h
      refine ⟨fun x hx => h x (by omega), ?_⟩
      have := h n (by omega)
      revert this; cases R (n : Int) <;> cases hasZ o n <;> simp
theorem iso_cnt {R : Int → Bool} {M : Int → List Int → Bool} {N : Nat} (hR : ∀ z, R z = true → 0 ≤ z ∧ z.toNat < N) {o : List Int} (h : okTo R M o o.length = true) : (decide (sumF (fun x => R x) (fun _ => 1) N = o.length)) = allR R o N := by
  have h1 := cnt_lack hR (Nat.le_refl _) h
  rw [List.take_length] at h1
  rw [Bool.eq_iff_iff, allR_iff, decide_eq_true_iff, ← sumF_none]
  omega
end Go.Proofs.YtnfamcepojpkjaaGreat

namespace Go.Proofs.YtnfamcepojpkjaaGreat
open Go.RowKit
set_option linter.unusedSimpArgs false
set_option linter.unusedVariables false
/-- A slice of the call's own, only read. -/
theorem sl_of_own {P : Program} {f : Nat} {ds l : List D} {e s : Nat} (h : CallsOwn P f ds l e s) : CallsTo P f ds (.c false [.sl true l]) := fun w vs hr ht => (h w vs hr ht).mono fun en w' ⟨v, cs, f, he, h1, h2, h3, h4⟩ =>
  ⟨v, he, ⟨⟨_, Sl.of_at h1 h2, fun b hb => by
    have hB : w.heap.size ≤ b := by
      rcases List.mem_append.1 hb with hb | hb
      · exact (OwnsAt.lt h1 b (by simpa using hb)).1
      · exact (h3 b hb).2
    have := out_new w.heap.size b (Or.inl hB)
    exact ⟨this.1, fun _ => this.2⟩⟩, trivial⟩, h4⟩
noncomputable def metB (l : List GPart) (z : Int) (o : List Int) : Bool := allB (needs l z) o
noncomputable def ordB (l : List GPart) (o : List Int) : Bool := okTo (runB l) (metB l) o o.length && allR (runB l) o l.length
theorem runB_in (l : List GPart) (z : Int) (h : runB l z = true) : 0 ≤ z ∧ z.toNat < l.length := by
  by_cases hin : 0 ≤ z ∧ z.toNat < l.length
  · exact hin
  · rw [runB_out l hin] at h; cases h
theorem allR_not {R : Int → Bool} {o : List Int} {n k : Nat} (h : k < n) (e1 : R k = true) (e2 : hasZ o k = false) : allR R o n = false := by
  rw [Bool.eq_false_iff]
  intro h1
  have := allR_iff.1 h1 k h
  rw [e1, e2] at this
  cases this
theorem allR_all {R : Int → Bool} {o : List Int} {k : Nat} (h : allR R o k = true) (e : (R k && !hasZ o k) = false) : allR R o (k + 1) = true := by
  simp only [allR, h, Bool.true_and]
  revert e
  cases R (k : Int) <;> cases hasZ o (k : Int) <;> simp
theorem ord_end {l : List GPart} {o : List Int} (h : okTo (runB l) (metB l) o o.length = true) : (((sumF (fun x : Nat => runB l (x : Int)) (fun _ => 1) l.length : Nat) : Int) == (o.length : Int)) = ordB l o := by
  unfold ordB
  rw [h, ← iso_cnt (runB_in l) h, Bool.true_and, Bool.eq_iff_iff, decide_eq_true_iff, beq_iff_eq]
  omega
end Go.Proofs.YtnfamcepojpkjaaGreat
