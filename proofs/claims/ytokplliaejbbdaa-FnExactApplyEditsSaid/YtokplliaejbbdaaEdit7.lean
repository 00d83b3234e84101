/-
  ApplyEdits, both packages.
-/
import Derived.Test.YtokplliaejbbdaaEdit6
namespace Go.Proofs.Ytokplliaejbbdaa
open Go.RowKit
set_option linter.unusedSimpArgs false
set_option linter.unusedVariables false
/-! ### Lists of edits -/
theorem app_len9 (l : List GCell) (e : GEdit) : (app l e).1.length ≤ max l.length 9 := by
  cases hv : validNb l with
  | false => simp [app, hv]; omega
  | true =>
    have := app_len l e
    have := valid_len hv
    omega
theorem wfs_app {a b : List GCell} (h : D.wfs (a.map GCell.toD)) (k : D.wfs (b.map GCell.toD)) : D.wfs ((a ++ b).map GCell.toD) := by
  induction a with
  | nil => exact k
  | cons x a ih => exact ⟨h.1, ih h.2⟩
theorem wfs_of {l : List GCell} (h : ∀ x ∈ l, x.toD.wf) : D.wfs (l.map GCell.toD) := by
  induction l with
  | nil => trivial
  | cons x l ih => exact ⟨h x (by simp), ih fun y hy => h y (by simp [hy])⟩
theorem wfs_mem {l : List GCell} (h : D.wfs (l.map GCell.toD)) {x : GCell} (hx : x ∈ l) : x.toD.wf := by
  obtain ⟨k, hk, rfl⟩ := List.mem_iff_getElem.1 hx
  exact wfs_get h hk
theorem app_wfs {l : List GCell} {e : GEdit} (h : D.wfs (l.map GCell.toD)) (he : e.toD.wf) : D.wfs ((app l e).1.map GCell.toD) := by
  have hc : e.cell.toD.wf := he.2.2.1
  cases hv : (validNb l && inR e.kind 1 6) with
  | false => unfold app; rw [hv]; exact h
  | true =>
    have ha : app l e = chg l e := by unfold app; rw [if_pos hv]
    rw [ha]
    simp only [Bool.and_eq_true] at hv
    have hput : ∀ (r : List GCell) (k : Nat) (c : GCell), (∀ x ∈ r, x.toD.wf) → c.toD.wf → ∀ x ∈ putAt r k c, x.toD.wf := by
      intro r k c hr hcw x hx
      unfold putAt at hx
      simp only [List.mem_append, List.mem_singleton] at hx
      rcases hx with (hx | rfl) | hx
      · exact hr x (List.mem_of_mem_take hx)
      · exact hcw
      · exact hr x (List.mem_of_mem_drop hx)
    have hdrop : ∀ (k : Nat), ∀ x ∈ dropAt l k, x.toD.wf := by
      intro k x hx
      unfold dropAt at hx
      simp only [List.mem_append] at hx
      rcases hx with hx | hx
      · exact wfs_mem h (List.mem_of_mem_take hx)
      · exact wfs_mem h (List.mem_of_mem_drop hx)
    unfold chg
    repeat' split
    all_goals first
      | exact h
      | exact wfs_of (hput _ _ _ (fun x hx => wfs_mem h hx) hc)
      | exact wfs_of (hdrop _)
      | (refine wfs_of (hput _ _ _ (hdrop _) ?_); rename_i hx _ _; exact wfs_mem h (List.mem_of_getElem? (by assumption)))
      | (refine wfs_of fun y hy => ?_
         rename_i x hx _ _ _
         rcases List.mem_or_eq_of_mem_set hy with hy | rfl
         · exact wfs_mem h hy
         · have hxm := List.mem_of_getElem? hx
           obtain ⟨k, hk, rfl⟩ := List.mem_iff_getElem.1 hxm
           have hvc := valid_get hv.1 hk
           refine editNew_wf (wfs_mem h hxm) he ?_
           unfold validCell inR at hvc
           simp only [Bool.and_eq_true, decide_eq_true_eq] at hvc
           omega)
/-- The cells and the codes after so many edits. -/
def appsN (l : List GCell) (es : List GEdit) : Nat → List GCell × List Int
  | 0 => (l, [])
  | k + 1 => match es[k]? with
    | some e => ((app (appsN l es k).1 e).1, (appsN l es k).2 ++ [(app (appsN l es k).1 e).2])
    | none => appsN l es k
theorem appsN_succ (l : List GCell) (es : List GEdit) {k : Nat} (h : k < es.length) : appsN l es (k + 1) = ((app (appsN l es k).1 es[k]).1, (appsN l es k).2 ++ [(app (appsN l es k).1 es[k]).2]) := by
  rw [appsN, List.getElem?_eq_getElem h]
theorem appsN_len (l : List GCell) (es : List GEdit) : ∀ k, k ≤ es.length → (appsN l es k).1.length ≤ max l.length 9 ∧ (appsN l es k).2.length = k
  | 0, _ => ⟨by show l.length ≤ _; omega, rfl⟩
  | k + 1, h => by
    obtain ⟨h1, h2⟩ := appsN_len l es k (by omega)
    have h3 := app_len9 (appsN l es k).1 (es[k]'(by omega))
    rw [appsN_succ l es (by omega)]
    refine ⟨by simp only; omega, by simp [h2]⟩
theorem appsN_wfs {l : List GCell} {es : List GEdit} (h : D.wfs (l.map GCell.toD)) (he : D.wfs (es.map GEdit.toD)) : ∀ k, k ≤ es.length → D.wfs ((appsN l es k).1.map GCell.toD)
  | 0, _ => h
  | k + 1, hk => by
    rw [appsN_succ l es (by omega)]
    exact app_wfs (appsN_wfs h he k (by omega)) (D.wfs_get he (List.mem_map_of_mem (f := GEdit.toD) (List.getElem_mem (by omega))))
theorem wrap_to {P : Program} {f : Nat} {ds l : List D} {e s : Nat} (h : CallsOwnG P f ds true l e s) (hf : FlatL l) : CallsTo P f ds (.c true [.sl true l]) := fun w vs hr ht => (h w vs hr ht).mono fun en w' ⟨v, cs, f', he, h1, h2, h3, h4⟩ => by
  have := hf _ _ _ h2
  subst this
  refine ⟨_, he, ⟨[v], rfl, ⟨⟨_, Sl.of_at h1 h2, fun b hb => ?_⟩, trivial⟩⟩, h4⟩
  rw [List.append_nil] at hb
  have := (OwnsAt.lt h1 b (by simpa using hb)).1
  exact ⟨newEnv_M.2 this, fun _ => Or.inl this⟩
def ic_apps_spec : IC := (.seq (.reg false [⟨(some 2), none, .box (.t 0)⟩, ⟨(some 4), none, .alloc [(.slice none 0 0)]⟩, ⟨(some 5), none, .mov (.k (.slice none 0 0))⟩]) (.seq (.reg false [⟨(some 11), none, .load 1 true (.t 2)⟩, ⟨(some 12), none, .call 29 [(.t 11)]⟩, ⟨(some 6), none, .alloc [(.slice none 0 0)]⟩, ⟨none, none, .store 1 (.t 6) (.t 12)⟩]) (.seq (.reg false [⟨(some 13), none, .brow true 3 1 0 false []⟩, ⟨(some 7), none, .mov (.t 13)⟩]) (.seq (.seq (.reg false [⟨(some 8), none, .mov (.k (.int .i64 0))⟩]) (.block 0 (.loop (.seq (.seq (.reg false [⟨(some 14), none, .mov (.t 8)⟩, ⟨(some 15), none, .mov (.t 1)⟩, ⟨(some 16), none, .len false (.t 15)⟩, ⟨(some 17), none, .bin .lss (.t 14) (.t 16)⟩]) (.cond (.t 17) .skip (.exit 0))) (.seq (.block 1 (.seq (.reg true [⟨(some 21), none, .load 1 true (.t 6)⟩, ⟨(some 22), none, .mov (.t 1)⟩, ⟨(some 23), none, .mov (.t 8)⟩, ⟨(some 24), none, .iad 8 (.t 22) (.t 23)⟩, ⟨(some 25), none, .load 8 true (.t 24)⟩, ⟨(some 26), none, .call 8 [(.t 21), (.t 25)]⟩, ⟨(some 20), none, .mov (.t 26)⟩, ⟨(some 27), none, .ext 0 (.t 20)⟩, ⟨(some 28), none, .ext 1 (.t 20)⟩, ⟨(some 9), none, .alloc [(.slice none 0 0)]⟩, ⟨none, none, .store 1 (.t 9) (.t 27)⟩, ⟨(some 10), none, .mov (.t 28)⟩]) (.seq (.reg false [⟨(some 29), none, .load 1 true (.t 9)⟩, ⟨none, none, .store 1 (.t 6) (.t 29)⟩]) (.reg false [⟨(some 30), none, .mov (.t 7)⟩, ⟨(some 31), none, .mov (.t 10)⟩, ⟨(some 32), none, .brow false 3 1 1 false [(.t 31)]⟩, ⟨(some 33), none, .app 3 1 (.t 30) (.t 32)⟩, ⟨(some 7), none, .mov (.t 33)⟩])))) (.reg false [⟨(some 18), none, .mov (.t 8)⟩, ⟨(some 19), none, .bin .add (.t 18) (.k (.int .i64 1))⟩, ⟨(some 8), none, .mov (.t 19)⟩])))))) (.seq (.reg false [⟨(some 34), none, .load 1 true (.t 6)⟩, ⟨(some 35), none, .mov (.t 7)⟩, ⟨none, none, .store 1 (.t 4) (.t 34)⟩, ⟨(some 5), none, .mov (.t 35)⟩]) .ret)))))
theorem ic_apps_spec_ok : compC Try.prog (Try.f19.body.getD .skip) = some ic_apps_spec := by kernel_rfl
set_option maxHeartbeats 16000000 in
theorem apps_spec_to (x : GNb) (es : List GEdit) (hn : x.cells.length ≤ 1048576) (hne : es.length ≤ 1048576) (hwl : D.wfs (x.cells.map GCell.toD)) (hew : D.wfs (es.map GEdit.toD)) : CallsTo Try.prog 19 [x.toD, .sl (es.map GEdit.toD)] (.tup [(true, [.sl true ((appsN x.cells es es.length).1.map GCell.toD)]), (false, [.sl true ((appsN x.cells es es.length).2.map li)])]) := by
  refine calls_two (fn := Try.f19) (r := .cell 4 33) (q := .tmp 5) (by kernel_rfl) (by kernel_rfl) (by kernel_rfl) (by kernel_rfl) ic_apps_spec_ok ?_
  have hcp := wrap_to (copyNb_spec x (by omega)) (GCell.flatL _)
  change AWP _ _ _ (st0 36 _)
  unfold ic_apps_spec
  simp only [undef, stS, st0, stN, D.av, D.avN, sl_agg, leaf_agg, li_agg, ls_agg, sl_acs, leaf_acs, li_acs, ls_acs, GNb.acs_eq, GNb.flat_eq, GNb.agg_eq, GCell.acs_eq, GCell.flat_eq, GCell.agg_eq, GCell.el, GEdit.acs_eq, GEdit.flat_eq, GEdit.agg_eq, GEdit.el, List.map_cons, List.map_nil, List.replicate, List.cons_append, List.nil_append, List.length_cons, List.length_nil, Nat.reduceAdd, Nat.reduceSub]
  repeat' (first | (with_reducible first | refine awp_seq ?_ | refine awp_block ?_ | refine awp_skip ?_ | refine awp_exit ?_ | refine awp_ret ?_ | refine athen ?_ | refine thenExit ?_ | refine thenRet ?_ | refine blockNormal ?_ | refine blockExit ?_ | refine blockRet ?_ | refine roundExit ?_ | refine roundRet ?_ | refine roundExitR ?_ | refine roundRetR ?_) | ((with_reducible refine blockPass ?_ ?_); rfl) | ((with_reducible refine awp_condT ?_ ?_); rfl) | ((with_reducible refine awp_condF ?_ ?_); rfl) | (with_reducible (refine awp_condS rfl ?_ ?_); all_goals (intro hb; have hb' := hb; (try simp only [pkC] at hb'); first | (exfalso; omega) | skip)) | ((with_reducible refine awp_reg ?_); intro K hK) | ((first | ((with_reducible refine awp_regD false ?_ ?_); rfl) | ((with_reducible refine awp_regD true ?_ ?_); rfl)); intro K hK) | ((with_reducible refine hK _ ?_); clear hK K) | (with_reducible refine and_split ?_ ?_) | ((with_reducible refine ct_id ?_); first | (refine callThen hcp trivial ?_ ?_)) | ((with_reducible refine ctd_id ?_); first | (refine callThenD hcp trivial ?_ ?_)) | ((with_reducible refine sw_id ?_); simp (disch := first | decide | omega) only [↓pkS, pkW, pkA, undef, capsOf, ex, St.put, St.ev, kav, gdA, opI, rawI, vbin, srcOf, avsD, acsD, AV.toD, AC.toD, AV.nw, AC.nw, AC.one, Value.oneCell', fillA, D.one, D.ones, D.sz, D.szs, Nat.reduceAdd, Nat.reduceSub, Nat.reduceLeDiff, Nat.reduceEqDiff, reduceIte, pkN, pkE]) | ((with_reducible refine sd_id ?_); simp (disch := first | decide | omega) only [↓pkR, pkD, pkA, undef, capsOf, ex, St.put, St.ev, kav, gdA, opI, rawI, vbin, srcOf, avsD, acsD, AV.toD, AC.toD, AV.nw, AC.nw, AC.one, Value.oneCell', fillA, D.one, D.ones, D.sz, D.szs, Nat.reduceAdd, Nat.reduceSub, Nat.reduceLeDiff, Nat.reduceEqDiff, reduceIte, pkN, pkE]) | (first | (with_reducible rfl) | (with_reducible refine fnok_id ?_; kernel_rfl) | exact el_strs _ | exact el_ints _ | exact el_ln _ | exact el_tk _ _ | exact el_td _ _ _ | omega | (simp; done) | (simp; omega)) | ((with_reducible refine args_id ?_); simp [ArgsOk, ArgOk, argsD, argD, AC.toD, Value.oneCell', sl_flat, leaf_flat, li_flat, ls_flat, sl_agg, leaf_agg, li_agg, ls_agg, mo_t, mo_f, pkE]; first | done | rfl))
  refine awp_loopB (X := Nat × Nat) (fun q => [.d, .k, .d, .d, .k, .d, .k, .v (.c false [.own 0 q.2]), .v (.c false [.raw (.int .i64 (q.1 : Nat))]), .d, .d, .d, .d, .d, .d, .d, .d, .d, .d, .d, .d, .d, .d, .d, .d, .d, .d, .d, .d, .d, .d, .d, .d, .d, .d, .d]) (fun q => [⟨(appsN x.cells es q.1).2.map li, 3, 1, q.2, true⟩]) (fun q bs => [[.sl false (x.cells.map GCell.toD)], [.raw (.slice none 0 0)], [.sl true ((appsN x.cells es q.1).1.map GCell.toD)]]) (fun q => q.1 ≤ es.length) (fun q => es.length - q.1) (0, 0) (Nat.zero_le _) ?_ ?_
  · simp [StLe', FrLe, OwnLe, BoxLe, AV.fits, AC.fits, FB, mask, appsN]
  rintro ⟨k, v⟩ hk
  have hk' : k ≤ es.length := hk
  clear hk
  simp only [FB, mask]
  by_cases hlk : k < es.length
  · obtain ⟨hl1, hl2⟩ := appsN_len x.cells es k hk'
    have hs := appsN_succ x.cells es hlk
    have hc := apply_spec_to ⟨(appsN x.cells es k).1⟩ es[k] (by simp only; omega) (appsN_wfs hwl hew k hk') (D.wfs_get hew (List.mem_map_of_mem (f := GEdit.toD) (List.getElem_mem hlk)))
    simp only at hc
    repeat' (first | (with_reducible first | refine awp_seq ?_ | refine awp_block ?_ | refine awp_skip ?_ | refine awp_exit ?_ | refine awp_ret ?_ | refine athen ?_ | refine thenExit ?_ | refine thenRet ?_ | refine blockNormal ?_ | refine blockExit ?_ | refine blockRet ?_ | refine roundExit ?_ | refine roundRet ?_ | refine roundExitR ?_ | refine roundRetR ?_) | ((with_reducible refine blockPass ?_ ?_); rfl) | ((with_reducible refine awp_condT ?_ ?_); rfl) | ((with_reducible refine awp_condF ?_ ?_); rfl) | (with_reducible (refine awp_condS rfl ?_ ?_); all_goals (intro hb; have hb' := hb; (try simp only [pkC] at hb'); first | (exfalso; omega) | skip)) | ((with_reducible refine awp_reg ?_); intro K hK) | ((first | ((with_reducible refine awp_regD false ?_ ?_); rfl) | ((with_reducible refine awp_regD true ?_ ?_); rfl)); intro K hK) | ((with_reducible refine hK _ ?_); clear hK K) | (with_reducible refine and_split ?_ ?_) | ((with_reducible refine ct_id ?_); first | (refine callThen hc trivial ?_ ?_)) | ((with_reducible refine ctd_id ?_); first | (refine callThenD hc trivial ?_ ?_)) | ((with_reducible refine sw_id ?_); simp (disch := first | decide | omega) only [↓pkS, pkW, pkA, undef, capsOf, ex, St.put, St.ev, kav, gdA, opI, rawI, vbin, srcOf, avsD, acsD, AV.toD, AC.toD, AV.nw, AC.nw, AC.one, Value.oneCell', fillA, D.one, D.ones, D.sz, D.szs, Nat.reduceAdd, Nat.reduceSub, Nat.reduceLeDiff, Nat.reduceEqDiff, reduceIte, pkN, pkE]) | ((with_reducible refine sd_id ?_); simp (disch := first | decide | omega) only [↓pkR, pkD, pkA, undef, capsOf, ex, St.put, St.ev, kav, gdA, opI, rawI, vbin, srcOf, avsD, acsD, AV.toD, AC.toD, AV.nw, AC.nw, AC.one, Value.oneCell', fillA, D.one, D.ones, D.sz, D.szs, Nat.reduceAdd, Nat.reduceSub, Nat.reduceLeDiff, Nat.reduceEqDiff, reduceIte, pkN, pkE]) | (first | (with_reducible rfl) | (with_reducible refine fnok_id ?_; kernel_rfl) | exact el_strs _ | exact el_ints _ | exact el_ln _ | exact el_tk _ _ | exact el_td _ _ _ | omega | (simp; done) | (simp; omega)) | ((with_reducible refine args_id ?_); simp [ArgsOk, ArgOk, argsD, argD, AC.toD, Value.oneCell', sl_flat, leaf_flat, li_flat, ls_flat, sl_agg, leaf_agg, li_agg, ls_agg, mo_t, mo_f, pkE]; first | done | rfl))
    all_goals first
      | (simp only [List.length_map, List.length_append, List.length_cons, List.length_nil]; omega)
      | (refine roundB (k + 1, v + 1) ?_ (show k + 1 ≤ es.length by omega) (show es.length - (k + 1) < es.length - k by omega)
         simp [StLe', FrLe, OwnLe, BoxLe, AV.fits, AC.fits, FB, mask, hs, li])
  · obtain rfl : k = es.length := by omega
    repeat' (first | (with_reducible first | refine awp_seq ?_ | refine awp_block ?_ | refine awp_skip ?_ | refine awp_exit ?_ | refine awp_ret ?_ | refine athen ?_ | refine thenExit ?_ | refine thenRet ?_ | refine blockNormal ?_ | refine blockExit ?_ | refine blockRet ?_ | refine roundExit ?_ | refine roundRet ?_ | refine roundExitR ?_ | refine roundRetR ?_) | ((with_reducible refine blockPass ?_ ?_); rfl) | ((with_reducible refine awp_condT ?_ ?_); rfl) | ((with_reducible refine awp_condF ?_ ?_); rfl) | (with_reducible (refine awp_condS rfl ?_ ?_); all_goals (intro hb; have hb' := hb; (try simp only [pkC] at hb'); first | (exfalso; omega) | skip)) | ((with_reducible refine awp_reg ?_); intro K hK) | ((first | ((with_reducible refine awp_regD false ?_ ?_); rfl) | ((with_reducible refine awp_regD true ?_ ?_); rfl)); intro K hK) | ((with_reducible refine hK _ ?_); clear hK K) | (with_reducible refine and_split ?_ ?_) | ((with_reducible refine sw_id ?_); simp (disch := first | decide | omega) only [↓pkS, pkW, pkA, undef, capsOf, ex, St.put, St.ev, kav, gdA, opI, rawI, vbin, srcOf, avsD, acsD, AV.toD, AC.toD, AV.nw, AC.nw, AC.one, Value.oneCell', fillA, D.one, D.ones, D.sz, D.szs, Nat.reduceAdd, Nat.reduceSub, Nat.reduceLeDiff, Nat.reduceEqDiff, reduceIte, pkN, pkE]) | ((with_reducible refine sd_id ?_); simp (disch := first | decide | omega) only [↓pkR, pkD, pkA, undef, capsOf, ex, St.put, St.ev, kav, gdA, opI, rawI, vbin, srcOf, avsD, acsD, AV.toD, AC.toD, AV.nw, AC.nw, AC.one, Value.oneCell', fillA, D.one, D.ones, D.sz, D.szs, Nat.reduceAdd, Nat.reduceSub, Nat.reduceLeDiff, Nat.reduceEqDiff, reduceIte, pkN, pkE]) | (first | (with_reducible rfl) | (with_reducible refine fnok_id ?_; kernel_rfl) | exact el_strs _ | exact el_ints _ | exact el_ln _ | exact el_tk _ _ | exact el_td _ _ _ | omega | (simp; done) | (simp; omega)) | ((with_reducible refine args_id ?_); simp [ArgsOk, ArgOk, argsD, argD, AC.toD, Value.oneCell', sl_flat, leaf_flat, li_flat, ls_flat, sl_agg, leaf_agg, li_agg, ls_agg, mo_t, mo_f, pkE]; first | done | rfl))
    exact endRet ⟨⟨1, _, rfl, rfl, ⟨rfl, rfl⟩, trivial⟩, ⟨_, rfl, ⟨_, rfl, rfl, rfl, Or.inl rfl⟩, trivial⟩⟩
def ic_apps_impl : IC := (.seq (.reg false [⟨(some 2), none, .box (.t 0)⟩, ⟨(some 4), none, .alloc [(.slice none 0 0)]⟩, ⟨(some 5), none, .mov (.k (.slice none 0 0))⟩]) (.seq (.reg false [⟨(some 12), none, .load 1 true (.t 2)⟩, ⟨(some 13), none, .call 41 [(.t 12)]⟩, ⟨(some 6), none, .alloc [(.slice none 0 0)]⟩, ⟨none, none, .store 1 (.t 6) (.t 13)⟩]) (.seq (.reg false [⟨(some 14), none, .brow true 3 1 0 false []⟩, ⟨(some 7), none, .mov (.t 14)⟩]) (.seq (.seq (.reg false [⟨(some 15), none, .mov (.t 1)⟩, ⟨(some 16), none, .len false (.t 15)⟩, ⟨(some 17), none, .mov (.k (.int .i64 0))⟩]) (.block 0 (.loop (.seq (.reg false [⟨(some 18), none, .bin .lss (.t 17) (.t 16)⟩]) (.seq (.cond (.t 18) .skip (.exit 0)) (.seq (.block 1 (.seq (.reg false [⟨(some 19), none, .iad 8 (.t 15) (.t 17)⟩, ⟨(some 20), none, .load 8 true (.t 19)⟩, ⟨(some 9), none, .alloc [(.int .i64 0), (.int .i64 0), (.int .i64 0), (.int .i64 0), (.int .i64 0), (.string ⟨#[]⟩), (.string ⟨#[]⟩), (.int .i64 0)]⟩, ⟨none, none, .store 8 (.t 9) (.t 20)⟩]) (.seq (.reg false [⟨(some 22), none, .load 1 true (.t 6)⟩, ⟨(some 23), none, .load 8 true (.t 9)⟩, ⟨(some 24), none, .call 11 [(.t 22), (.t 23)]⟩, ⟨(some 21), none, .mov (.t 24)⟩, ⟨(some 25), none, .ext 0 (.t 21)⟩, ⟨(some 26), none, .ext 1 (.t 21)⟩, ⟨(some 10), none, .alloc [(.slice none 0 0)]⟩, ⟨none, none, .store 1 (.t 10) (.t 25)⟩, ⟨(some 11), none, .mov (.t 26)⟩]) (.seq (.reg false [⟨(some 27), none, .load 1 true (.t 10)⟩, ⟨none, none, .store 1 (.t 6) (.t 27)⟩]) (.reg false [⟨(some 28), none, .mov (.t 7)⟩, ⟨(some 29), none, .mov (.t 11)⟩, ⟨(some 30), none, .brow false 3 1 1 false [(.t 29)]⟩, ⟨(some 31), none, .app 3 1 (.t 28) (.t 30)⟩, ⟨(some 7), none, .mov (.t 31)⟩]))))) (.reg false [⟨(some 32), none, .bin .add (.t 17) (.k (.int .i64 1))⟩, ⟨(some 17), none, .mov (.t 32)⟩]))))))) (.seq (.reg false [⟨(some 33), none, .load 1 true (.t 6)⟩, ⟨(some 34), none, .mov (.t 7)⟩, ⟨none, none, .store 1 (.t 4) (.t 33)⟩, ⟨(some 5), none, .mov (.t 34)⟩]) .ret)))))
theorem ic_apps_impl_ok : compC Try.prog (Try.f21.body.getD .skip) = some ic_apps_impl := by kernel_rfl
set_option maxHeartbeats 16000000 in
theorem apps_impl_x (x : GNb) (es : List GEdit) (hn : x.cells.length ≤ 1048576) (hne : es.length ≤ 1048576) (hwl : D.wfs (x.cells.map GCell.toD)) (hew : D.wfs (es.map GEdit.toD)) : CallsX Try.prog 21 [x.toD, .sl (es.map GEdit.toD)] (.tup [(true, [.own 0 0]), (false, [.own 1 0])]) [⟨(appsN x.cells es es.length).1.map GCell.toD, 37, 6, 0, true⟩, ⟨(appsN x.cells es es.length).2.map li, 3, 1, 0, true⟩] := by
  refine calls_outs2 (fn := Try.f21) (r := .cell 4 33) (q := .tmp 5) (by kernel_rfl) (by kernel_rfl) (by kernel_rfl) (by kernel_rfl) ic_apps_impl_ok ?_
  have hcp := copyNb_impl x (by omega)
  change AWP _ _ _ (st0 35 _)
  unfold ic_apps_impl
  simp only [undef, stS, st0, stN, D.av, D.avN, sl_agg, leaf_agg, li_agg, ls_agg, sl_acs, leaf_acs, li_acs, ls_acs, GNb.acs_eq, GNb.flat_eq, GNb.agg_eq, GCell.acs_eq, GCell.flat_eq, GCell.agg_eq, GCell.el, GEdit.acs_eq, GEdit.flat_eq, GEdit.agg_eq, GEdit.el, List.map_cons, List.map_nil, List.replicate, List.cons_append, List.nil_append, List.length_cons, List.length_nil, Nat.reduceAdd, Nat.reduceSub]
  repeat' (first | (with_reducible first | refine awp_seq ?_ | refine awp_block ?_ | refine awp_skip ?_ | refine awp_exit ?_ | refine awp_ret ?_ | refine athen ?_ | refine thenExit ?_ | refine thenRet ?_ | refine blockNormal ?_ | refine blockExit ?_ | refine blockRet ?_ | refine roundExit ?_ | refine roundRet ?_ | refine roundExitR ?_ | refine roundRetR ?_) | ((with_reducible refine blockPass ?_ ?_); rfl) | ((with_reducible refine awp_condT ?_ ?_); rfl) | ((with_reducible refine awp_condF ?_ ?_); rfl) | (with_reducible (refine awp_condS rfl ?_ ?_); all_goals (intro hb; have hb' := hb; (try simp only [pkC] at hb'); first | (exfalso; omega) | skip)) | ((with_reducible refine awp_reg ?_); intro K hK) | ((with_reducible refine hK _ ?_); clear hK K) | (with_reducible refine and_split ?_ ?_) | ((with_reducible refine ct_id ?_); first | (refine callOwn hcp (GCell.el _) ?_ ?_)) | ((with_reducible refine sw_id ?_); simp (disch := first | decide | omega) only [↓pkS, pkW, pkA, undef, capsOf, ex, St.put, St.ev, kav, gdA, opI, rawI, vbin, srcOf, avsD, acsD, AV.toD, AC.toD, AV.nw, AC.nw, AC.one, Value.oneCell', fillA, D.one, D.ones, D.sz, D.szs, Nat.reduceAdd, Nat.reduceSub, Nat.reduceLeDiff, Nat.reduceEqDiff, reduceIte, pkN, pkE]) | (first | (with_reducible rfl) | (with_reducible refine fnok_id ?_; kernel_rfl) | exact el_strs _ | exact el_ints _ | exact el_ln _ | exact el_tk _ _ | exact el_td _ _ _ | omega | (simp; done) | (simp; omega)) | ((with_reducible refine args_id ?_); simp [ArgsOk, ArgOk, argsD, argD, AC.toD, Value.oneCell', sl_flat, leaf_flat, li_flat, ls_flat, sl_agg, leaf_agg, li_agg, ls_agg, mo_t, mo_f, pkE]; first | done | rfl))
  refine awp_loopR (X := Nat × Nat) (fun q => [.d, .d, .d, .d, .k, .d, .k, .v (.c false [.own 1 q.2]), .d, .d, .d, .d, .d, .d, .d, .k, .k, .v (.c false [.raw (.int .i64 (q.1 : Nat))]), .d, .d, .d, .d, .d, .d, .d, .d, .d, .d, .d, .d, .d, .d, .d, .d, .d]) (fun q => [⟨(appsN x.cells es q.1).1.map GCell.toD, 37, 6, 0, true⟩, ⟨(appsN x.cells es q.1).2.map li, 3, 1, q.2, true⟩]) (fun q bs => [[.sl false (x.cells.map GCell.toD)], [.raw (.slice none 0 0)], [.own 0 0]]) (fun q => q.1 ≤ es.length) (fun q => es.length - q.1) (0, 0) [0, 1] (Nat.zero_le _) ?_ ?_
  · simp [StLeR, FrLeR, OwnLeR, BoxLeR, AV.ren, AC.ren, AV.fits, AC.fits, FB, mask, appsN]
  rintro ⟨k, v⟩ hk
  have hk' : k ≤ es.length := hk
  clear hk
  simp only [FB, mask]
  by_cases hlk : k < es.length
  · obtain ⟨hl1, hl2⟩ := appsN_len x.cells es k hk'
    have hs := appsN_succ x.cells es hlk
    have hc := apply_impl_x ⟨(appsN x.cells es k).1⟩ es[k] (by simp only; omega) (appsN_wfs hwl hew k hk') (D.wfs_get hew (List.mem_map_of_mem (f := GEdit.toD) (List.getElem_mem hlk)))
    simp only at hc
    repeat' (first | (with_reducible first | refine awp_seq ?_ | refine awp_block ?_ | refine awp_skip ?_ | refine awp_exit ?_ | refine awp_ret ?_ | refine athen ?_ | refine thenExit ?_ | refine thenRet ?_ | refine blockNormal ?_ | refine blockExit ?_ | refine blockRet ?_ | refine roundExit ?_ | refine roundRet ?_ | refine roundExitR ?_ | refine roundRetR ?_) | ((with_reducible refine blockPass ?_ ?_); rfl) | ((with_reducible refine awp_condT ?_ ?_); rfl) | ((with_reducible refine awp_condF ?_ ?_); rfl) | (with_reducible (refine awp_condS rfl ?_ ?_); all_goals (intro hb; have hb' := hb; (try simp only [pkC] at hb'); first | (exfalso; omega) | skip)) | ((with_reducible refine awp_reg ?_); intro K hK) | ((with_reducible refine hK _ ?_); clear hK K) | (with_reducible refine and_split ?_ ?_) | ((with_reducible refine ct_id ?_); first | (refine callOuts hc rfl (by simp) ?_ ?_)) | ((with_reducible refine sw_id ?_); simp (disch := first | decide | omega) only [↓pkS, pkW, pkA, undef, capsOf, ex, St.put, St.ev, kav, gdA, opI, rawI, vbin, srcOf, avsD, acsD, AV.toD, AC.toD, AV.nw, AC.nw, AC.one, Value.oneCell', fillA, D.one, D.ones, D.sz, D.szs, Nat.reduceAdd, Nat.reduceSub, Nat.reduceLeDiff, Nat.reduceEqDiff, reduceIte, pkN, pkE, AV.shift, AC.shift]) | (first | (with_reducible rfl) | (with_reducible refine fnok_id ?_; kernel_rfl) | exact el_strs _ | exact el_ints _ | exact el_ln _ | exact el_tk _ _ | exact el_td _ _ _ | omega | (simp; done) | (simp; omega)) | ((with_reducible refine args_id ?_); simp [ArgsOk, ArgOk, argsD, argD, AC.toD, Value.oneCell', sl_flat, leaf_flat, li_flat, ls_flat, sl_agg, leaf_agg, li_agg, ls_agg, mo_t, mo_f, pkE, AV.shift, AC.shift]; first | done | rfl))
    all_goals first
      | (simp only [List.length_map, List.length_append, List.length_cons, List.length_nil]; omega)
      | (refine roundR (k + 1, v + 1) [2, 1] ?_ (show k + 1 ≤ es.length by omega) (show es.length - (k + 1) < es.length - k by omega)
         simp [StLeR, FrLeR, OwnLeR, BoxLeR, AV.ren, AC.ren, AV.fits, AC.fits, FB, mask, hs, li])
  · obtain rfl : k = es.length := by omega
    repeat' (first | (with_reducible first | refine awp_seq ?_ | refine awp_block ?_ | refine awp_skip ?_ | refine awp_exit ?_ | refine awp_ret ?_ | refine athen ?_ | refine thenExit ?_ | refine thenRet ?_ | refine blockNormal ?_ | refine blockExit ?_ | refine blockRet ?_ | refine roundExit ?_ | refine roundRet ?_ | refine roundExitR ?_ | refine roundRetR ?_) | ((with_reducible refine blockPass ?_ ?_); rfl) | ((with_reducible refine awp_condT ?_ ?_); rfl) | ((with_reducible refine awp_condF ?_ ?_); rfl) | (with_reducible (refine awp_condS rfl ?_ ?_); all_goals (intro hb; have hb' := hb; (try simp only [pkC] at hb'); first | (exfalso; omega) | skip)) | ((with_reducible refine awp_reg ?_); intro K hK) | ((with_reducible refine hK _ ?_); clear hK K) | (with_reducible refine and_split ?_ ?_) | ((with_reducible refine sw_id ?_); simp (disch := first | decide | omega) only [↓pkS, pkW, pkA, undef, capsOf, ex, St.put, St.ev, kav, gdA, opI, rawI, vbin, srcOf, avsD, acsD, AV.toD, AC.toD, AV.nw, AC.nw, AC.one, Value.oneCell', fillA, D.one, D.ones, D.sz, D.szs, Nat.reduceAdd, Nat.reduceSub, Nat.reduceLeDiff, Nat.reduceEqDiff, reduceIte, pkN, pkE]) | (first | (with_reducible rfl) | (with_reducible refine fnok_id ?_; kernel_rfl) | exact el_strs _ | exact el_ints _ | exact el_ln _ | exact el_tk _ _ | exact el_td _ _ _ | omega | (simp; done) | (simp; omega)) | ((with_reducible refine args_id ?_); simp [ArgsOk, ArgOk, argsD, argD, AC.toD, Value.oneCell', sl_flat, leaf_flat, li_flat, ls_flat, sl_agg, leaf_agg, li_agg, ls_agg, mo_t, mo_f, pkE]; first | done | rfl))
    exact endRet ⟨[0, 1], by simp, ⟨⟨_, rfl, rfl, Or.inl rfl⟩, ⟨_, rfl, rfl, Or.inl rfl⟩, trivial⟩, ⟨1, _, rfl, rfl, ⟨rfl, rfl, _, rfl, rfl⟩, trivial⟩, ⟨_, rfl, ⟨rfl, rfl, _, rfl, rfl⟩, trivial⟩⟩
/-- Two results: a struct that holds one list, and a list; their blocks. -/
def OutsPost (d : D) (l1 : List D) (w : World) (e : Ending) (w' : World) : Prop := ∃ f0 c0 f1 v1, e = .returned (.tuple #[.agg c0.toArray, v1]) ∧ R w' d f0 c0 ∧ Free w' w.heap.size f0 ∧ Sl w' l1 f1 v1 ∧ Free w' w.heap.size f1 ∧ (∀ x ∈ f0, x ∉ f1) ∧ Below w.heap.size w w'
def OutsPostW (d : D) (l1 : List D) (w : World) (e : Ending) (w' : World) : Prop := ∃ f0 c0 f1 v1, e = .returned (.tuple #[.agg c0.toArray, v1]) ∧ R w' d f0 c0 ∧ FreeW w' w.heap.size f0 ∧ Sl w' l1 f1 v1 ∧ FreeW w' w.heap.size f1 ∧ Below w.heap.size w w'
theorem of_outs2 {P : Program} {f : Nat} {ds l0 l1 : List D} {e0 s0 e1 s1 : Nat} (h : CallsX P f ds (.tup [(true, [.own 0 0]), (false, [.own 1 0])]) [⟨l0, e0, s0, 0, true⟩, ⟨l1, e1, s1, 0, true⟩]) (hf0 : FlatL l0) (hf1 : FlatL l1) {w : World} {vs : List Value} (hr : Rds w ds vs) (ht : TabP w := by first | exact trivial | assumption) :
    Calls P f vs.toArray w (OutsPost (.agg [.sl l0]) l1 w) := (h w vs hr ht).mono fun en w' ⟨v, om, h1, h2, h3, h4⟩ => by
  obtain ⟨us, rfl, h5⟩ := h3
  match us, h5 with
  | [a, b], ⟨h6, h7, _⟩ =>
    obtain ⟨xs, rfl, h8⟩ := h6
    obtain ⟨⟨_, ob, pb, q1, q2, q3, q4⟩, _⟩ := h7
    match xs, h8 with
    | [x], ⟨⟨_, o, p, g1, g2, g3, g4⟩, _⟩ =>
      simp at g1 q1
      subst g1 q1
      obtain rfl := g4 rfl
      obtain rfl := q4 rfl
      obtain ⟨hol, o2, hnd⟩ := h2
      obtain ⟨cs, k1, k2, k3, k4⟩ := o2 0 _ p rfl g2
      obtain ⟨cb, j1, j2, j3, j4⟩ := o2 1 _ pb rfl q2
      have e1 := hf0 _ _ _ k2
      have e2 := hf1 _ _ _ j2
      rw [e1] at k2
      rw [e2] at j2
      have S0 := Sl.of_at k1 k2
      have S1 := Sl.of_at j1 j2
      refine ⟨_, [p.1], _, pb.1, h1, ?_, Free.of_at k1 Free.nil (fun g hg => by simp), S1, Free.of_at j1 Free.nil (fun g hg => by simp), ?_, h4⟩
      · rw [R_agg]
        exact Rs.one S0
      · intro b hb1 hb2
        have hom : om = [p, pb] := by
          match om, hol, g2, q2 with
          | [y, z], _, g2, q2 =>
            simp at g2 q2
            rw [g2, q2]
        rw [hom] at hnd
        simp only [List.flatMap_cons, List.flatMap_nil, List.append_nil] at hnd
        rw [List.nodup_append] at hnd
        simp only [List.append_nil] at hb1 hb2
        exact hnd.2.2 b hb1 b hb2 rfl
theorem of_tup2 {P : Program} {f : Nat} {ds l0 l1 : List D} (h : CallsTo P f ds (.tup [(true, [.sl true l0]), (false, [.sl true l1])])) {w : World} {vs : List Value} (hr : Rds w ds vs) (ht : TabP w := by first | exact trivial | assumption) :
    Calls P f vs.toArray w (OutsPostW (.agg [.sl l0]) l1 w) := (h w vs hr ht).mono fun en w' ⟨v, h1, h2, h3⟩ => by
  obtain ⟨us, rfl, h5⟩ := h2
  match us, h5 with
  | [a, b], ⟨h6, h7, _⟩ =>
    obtain ⟨xs, rfl, h8⟩ := h6
    obtain ⟨⟨f1, g1, g2⟩, _⟩ := h7
    match xs, h8 with
    | [x], ⟨⟨f0, q1, q2⟩, _⟩ =>
      refine ⟨f0, [x], f1, b, h1, ?_, ⟨trivial, fun z hz => ⟨newEnv_M.1 (q2 z hz).1, trivial⟩⟩, g1, ⟨trivial, fun z hz => ⟨newEnv_M.1 (g2 z hz).1, trivial⟩⟩, h3⟩
      rw [R_agg]
      exact Rs.one q1
theorem apps_spec_law (x : GNb) (es : List GEdit) (fp fe : List Nat) (cs : List Value) (ve : Value) (w : World) (hx : R w x.toD fp cs) (he : Sl w (es.map GEdit.toD) fe ve) (hn : x.cells.length ≤ 1048576) (hne : es.length ≤ 1048576) (hwl : D.wfs (x.cells.map GCell.toD)) (hew : D.wfs (es.map GEdit.toD)) :
    Calls Try.prog 19 #[.agg cs.toArray, ve] w (OutsPostW (GNb.toD ⟨(appsN x.cells es es.length).1⟩) ((appsN x.cells es es.length).2.map li) w) := by
  have := of_tup2 (vs := [.agg cs.toArray, ve]) (w := w) (apps_spec_to x es hn hne hwl hew) ⟨rd_of_agg x.agg_eq hx, rd_of_sl he, trivial⟩
  exact this
theorem apps_impl_law (x : GNb) (es : List GEdit) (fp fe : List Nat) (cs : List Value) (ve : Value) (w : World) (hx : R w x.toD fp cs) (he : Sl w (es.map GEdit.toD) fe ve) (hn : x.cells.length ≤ 1048576) (hne : es.length ≤ 1048576) (hwl : D.wfs (x.cells.map GCell.toD)) (hew : D.wfs (es.map GEdit.toD)) :
    Calls Try.prog 21 #[.agg cs.toArray, ve] w (OutsPost (GNb.toD ⟨(appsN x.cells es es.length).1⟩) ((appsN x.cells es es.length).2.map li) w) := by
  have := of_outs2 (vs := [.agg cs.toArray, ve]) (w := w) (apps_impl_x x es hn hne hwl hew) (GCell.flatL _) (flat_ints _) ⟨rd_of_agg x.agg_eq hx, rd_of_sl he, trivial⟩
  exact this
end Go.Proofs.Ytokplliaejbbdaa
