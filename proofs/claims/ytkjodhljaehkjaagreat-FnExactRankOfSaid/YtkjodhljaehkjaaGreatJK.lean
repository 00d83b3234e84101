/-
  Texts joined: Rank RankI.
-/
import Derived.Test.YtkjodhljaehkjaaGreatJG
import Derived.Test.YtkjodhljaehkjaaGreatJF
namespace Go.Proofs.YtkjodhljaehkjaaGreat
open Go.RowKit
set_option linter.unusedSimpArgs false
set_option linter.unusedVariables false
/-! ### What is used has fewer below it -/
theorem sumF_mono1 {p q : Nat → Bool} : ∀ {n : Nat}, (∀ x, x < n → p x = true → q x = true) → sumF p (fun _ => 1) n ≤ sumF q (fun _ => 1) n
  | 0, _ => Nat.le_refl _
  | n + 1, h => by
    have ih := sumF_mono1 (p := p) (q := q) (n := n) (fun x hx => h x (by omega))
    have h2 := h n (by omega)
    simp only [sumF]
    cases hp : p n with
    | true => rw [h2 hp]; simp; exact ih
    | false => simp; omega
theorem sumF_lt1 {p q : Nat → Bool} {k : Nat} (hp : p k = false) (hq : q k = true) : ∀ {n : Nat}, (∀ x, x < n → p x = true → q x = true) → k < n → sumF p (fun _ => 1) n < sumF q (fun _ => 1) n
  | 0, _, h => by omega
  | n + 1, h, hk => by
    simp only [sumF]
    rcases Nat.lt_or_ge k n with h' | h'
    · have ih := sumF_lt1 hp hq (n := n) (fun x hx => h x (by omega)) h'
      have h2 := h n (by omega)
      cases hpn : p n with
      | true => rw [h2 hpn]; simp; exact ih
      | false => simp; omega
    · obtain rfl : k = n := by omega
      have := sumF_mono1 (p := p) (q := q) (n := k) (fun x hx => h x (by omega))
      rw [hp, hq]; simp; omega
theorem rch_con {g : Int → List Nat} {z : Int} {v x : Nat} (hv : v ∈ g z) (h : Rch g (v : Int) x) : Rch g z x := by
  induction h with
  | one h => exact .more (.one hv) h
  | more _ h ih => exact .more ih h
noncomputable def mu (l : List GPart) (k : Nat) : Nat := sumF (rchB (nrI l false) (k : Int)) (fun _ => 1) l.length
theorem mu_le (l : List GPart) (k : Nat) : mu l k ≤ l.length := sumF_le1
noncomputable def nd (l : List GPart) (k : Nat) : List Nat := needs l (k : Int)
theorem nd_run {l : List GPart} {k u : Nat} (h : u ∈ nd l k) : runB l (u : Int) = true := (List.mem_filter.1 h).2
theorem run_off {l : List GPart} {u : Nat} (h : runB l (u : Int) = true) : onC l (u : Int) = false := by
  obtain ⟨h0, h1⟩ := runB_in l _ h
  have := runB_at l h0 h1
  rw [h] at this
  cases hc : onC l (u : Int) with
  | false => rfl
  | true => rw [hc] at this; simp at this
theorem mu_lt {l : List GPart} {k u : Nat} (hu : u ∈ nd l k) : mu l u < mu l k := by
  have hd : u ∈ nrI l false (k : Int) := (List.mem_filter.1 hu).1
  have hlt : u < l.length := needs_lt l _ u hu
  refine sumF_lt1 (k := u) ?_ (rchB_iff.2 (.one hd)) (fun x hx h => rchB_iff.2 (rch_con hd (rchB_iff.1 h))) hlt
  rw [Bool.eq_false_iff]
  intro h
  have h1 := run_off (nd_run hu)
  have : onC l (u : Int) = true := by
    unfold onC
    rw [hasI_nat, List.contains_iff_mem, mem_cl]
    exact ⟨hlt, rchB_iff.1 h⟩
  rw [h1] at this
  cases this
/-! ### The ranks -/
def mxOf (g : Nat → Nat) (us : List Nat) : Nat := us.foldl (fun a u => max a (g u)) 0
theorem mxOf_congr {g h : Nat → Nat} : ∀ {us : List Nat}, (∀ u ∈ us, g u = h u) → ∀ a, us.foldl (fun a u => max a (g u)) a = us.foldl (fun a u => max a (h u)) a
  | [], _, a => rfl
  | u :: us, e, a => by
    simp only [List.foldl_cons]
    rw [e u (by simp)]
    exact mxOf_congr (fun x hx => e x (by simp [hx])) _
theorem mxOf_take (g : Nat → Nat) (us : List Nat) {k : Nat} (h : k < us.length) : mxOf g (us.take (k + 1)) = max (mxOf g (us.take k)) (g us[k]) := by
  unfold mxOf
  rw [List.take_succ_eq_append_getElem h, List.foldl_append]
  rfl
theorem foldl_le {g : Nat → Nat} {n : Nat} : ∀ {us : List Nat} {a : Nat}, (∀ u ∈ us, g u ≤ n) → a ≤ n → us.foldl (fun a u => max a (g u)) a ≤ n
  | [], a, _, h => h
  | u :: us, a, hu, h => by
    simp only [List.foldl_cons]
    exact foldl_le (fun x hx => hu x (by simp [hx])) (Nat.max_le.2 ⟨h, hu u (by simp)⟩)
def rkF (f : Nat → List Nat) : Nat → Nat → Nat
  | 0, _ => 0
  | n + 1, k => 1 + mxOf (rkF f n) (f k)
theorem rkF_le (f : Nat → List Nat) : ∀ n k, rkF f n k ≤ n
  | 0, _ => Nat.le_refl _
  | n + 1, k => by
    have : mxOf (rkF f n) (f k) ≤ n := foldl_le (fun u _ => rkF_le f n u) (Nat.zero_le _)
    simp only [rkF]; omega
noncomputable def rk (l : List GPart) (k : Nat) : Nat := rkF (nd l) (mu l k + 1) k
theorem rk_le (l : List GPart) (k : Nat) : rk l k ≤ l.length + 1 := by
  have h1 := rkF_le (nd l) (mu l k + 1) k
  have := mu_le l k
  unfold rk
  omega
theorem rk_stab (l : List GPart) : ∀ m k, mu l k ≤ m → ∀ n, mu l k < n → rkF (nd l) n k = rk l k
  | 0, k, hm, n + 1, hn => by
    unfold rk
    simp only [rkF]
    congr 1
    refine mxOf_congr (fun u hu => ?_) 0
    have := mu_lt hu
    omega
  | m + 1, k, hm, n + 1, hn => by
    unfold rk
    simp only [rkF]
    congr 1
    refine mxOf_congr (fun u hu => ?_) 0
    have hlt := mu_lt hu
    rw [rk_stab l m u (by omega) n (by omega), rk_stab l m u (by omega) (mu l k) (by omega)]
theorem rk_eq (l : List GPart) (k : Nat) : rk l k = 1 + mxOf (rk l) (nd l k) := by
  show rkF (nd l) (mu l k + 1) k = _
  simp only [rkF]
  congr 1
  exact mxOf_congr (fun u hu => rk_stab l (mu l u) u (Nat.le_refl _) _ (mu_lt hu)) 0
noncomputable def rankZ (l : List GPart) (z : Int) : Nat := if runB l z then rk l z.toNat else 0
theorem rankZ_off {l : List GPart} {z : Int} (h : runB l z = false) : rankZ l z = 0 := by unfold rankZ; rw [if_neg (by simp [h])]
theorem rankZ_on {l : List GPart} {k : Nat} (h : runB l (k : Int) = true) : rankZ l (k : Int) = rk l k := by unfold rankZ; rw [if_pos h]; simp
theorem rankZ_le (l : List GPart) (z : Int) : rankZ l z ≤ l.length + 1 := by
  unfold rankZ
  split
  · exact rk_le l _
  · omega
/-! ### The reference -/
def ic_l1Max : IC := (.seq (.reg false [⟨(some 4), none, .mov (.k (.int .i64 0))⟩]) (.seq (.seq (.reg false [⟨(some 5), none, .mov (.t 0)⟩, ⟨(some 6), none, .mov (.t 1)⟩, ⟨(some 7), none, .bin .gtr (.t 5) (.t 6)⟩]) (.cond (.t 7) (.seq (.reg false [⟨(some 8), none, .mov (.t 0)⟩, ⟨(some 4), none, .mov (.t 8)⟩]) .ret) .skip)) (.seq (.reg false [⟨(some 9), none, .mov (.t 1)⟩, ⟨(some 4), none, .mov (.t 9)⟩]) .ret)))
theorem ic_l1Max_ok : compC Tryz.prog (Tryz.f72.body.getD .skip) = some ic_l1Max := by kernel_rfl
theorem l1Max_to (a b : Nat) : CallsTo Tryz.prog 72 [li (a : Int), li (b : Int)] (.c false [.raw (.int .i64 ((max a b : Nat) : Int))]) := by
  refine calls_one (fn := Tryz.f72) (t := 4) (by kernel_rfl) (by kernel_rfl) (by kernel_rfl) ic_l1Max_ok ?_
  unfold ic_l1Max
  change AWP _ _ _ (st0 10 _)
  simp only [undef, stS, st0, stN, D.av, D.avN, sl_agg, leaf_agg, li_agg, ls_agg, sl_acs, leaf_acs, li_acs, ls_acs, ln_acs, el_ln, getq_map, GPart.acs_eq, GPart.flat_eq, GPart.agg_eq, GPart.el, List.map_cons, List.map_nil, List.replicate, List.cons_append, List.nil_append, List.length_cons, List.length_nil, Nat.reduceAdd, Nat.reduceSub]
  by_cases h : (a : Int) > b
  · have hm : max a b = a := Nat.max_eq_left (by omega)
    repeat' (first | (with_reducible first | refine awp_seq ?_ | refine awp_block ?_ | refine awp_skip ?_ | refine awp_exit ?_ | refine awp_ret ?_ | refine athen ?_ | refine thenExit ?_ | refine thenRet ?_ | refine blockNormal ?_ | refine blockExit ?_ | refine blockRet ?_ | refine roundExit ?_ | refine roundRet ?_ | refine roundExitR ?_ | refine roundRetR ?_) | ((with_reducible refine blockPass ?_ ?_); rfl) | ((with_reducible refine awp_condT ?_ ?_); rfl) | ((with_reducible refine awp_condF ?_ ?_); rfl) | ((with_reducible refine awp_reg ?_); intro K hK) | ((with_reducible refine hK _ ?_); clear hK K) | (with_reducible refine and_split ?_ ?_) | ((with_reducible refine sw_id ?_); simp (disch := first | decide | omega) only [↓pkS, pkW, pkA, undef, capsOf, ex, St.put, St.ev, kav, gdA, opI, rawI, vbin, srcOf, avsD, acsD, AV.toD, AC.toD, AV.nw, AC.nw, AC.one, Value.oneCell', fillA, D.one, D.ones, D.sz, D.szs, Nat.reduceAdd, Nat.reduceSub, Nat.reduceLeDiff, Nat.reduceEqDiff, reduceIte, pkN, ln_acs, el_ln, getq_map, GPart.acs_eq, GPart.flat_eq, GPart.agg_eq, GPart.el]) | (first | (with_reducible rfl) | (with_reducible refine fnok_id ?_; kernel_rfl) | exact el_strs _ | exact el_ints _ | exact el_ln _ | exact el_tk _ _ | exact el_td _ _ _ | omega | (simp; done) | (simp; omega)) | ((with_reducible refine args_id ?_); simp [ArgsOk, ArgOk, argsD, argD, AC.toD, Value.oneCell', sl_flat, leaf_flat, li_flat, ls_flat, sl_agg, leaf_agg, li_agg, ls_agg, mo_t, mo_f, ln_acs, el_ln, getq_map, GPart.acs_eq, GPart.flat_eq, GPart.agg_eq, GPart.el]; done))
    all_goals exact endRet ⟨_, rfl, by rw [hm]; rfl, trivial⟩
  · by_cases h2 : (a : Int) < b
    · have hm : max a b = b := Nat.max_eq_right (by omega)
      repeat' (first | (with_reducible first | refine awp_seq ?_ | refine awp_block ?_ | refine awp_skip ?_ | refine awp_exit ?_ | refine awp_ret ?_ | refine athen ?_ | refine thenExit ?_ | refine thenRet ?_ | refine blockNormal ?_ | refine blockExit ?_ | refine blockRet ?_ | refine roundExit ?_ | refine roundRet ?_ | refine roundExitR ?_ | refine roundRetR ?_) | ((with_reducible refine blockPass ?_ ?_); rfl) | ((with_reducible refine awp_condT ?_ ?_); rfl) | ((with_reducible refine awp_condF ?_ ?_); rfl) | ((with_reducible refine awp_reg ?_); intro K hK) | ((with_reducible refine hK _ ?_); clear hK K) | (with_reducible refine and_split ?_ ?_) | ((with_reducible refine sw_id ?_); simp (disch := first | decide | omega) only [↓pkS, pkW, pkA, undef, capsOf, ex, St.put, St.ev, kav, gdA, opI, rawI, vbin, srcOf, avsD, acsD, AV.toD, AC.toD, AV.nw, AC.nw, AC.one, Value.oneCell', fillA, D.one, D.ones, D.sz, D.szs, Nat.reduceAdd, Nat.reduceSub, Nat.reduceLeDiff, Nat.reduceEqDiff, reduceIte, pkN, ln_acs, el_ln, getq_map, GPart.acs_eq, GPart.flat_eq, GPart.agg_eq, GPart.el]) | (first | (with_reducible rfl) | (with_reducible refine fnok_id ?_; kernel_rfl) | exact el_strs _ | exact el_ints _ | exact el_ln _ | exact el_tk _ _ | exact el_td _ _ _ | omega | (simp; done) | (simp; omega)) | ((with_reducible refine args_id ?_); simp [ArgsOk, ArgOk, argsD, argD, AC.toD, Value.oneCell', sl_flat, leaf_flat, li_flat, ls_flat, sl_agg, leaf_agg, li_agg, ls_agg, mo_t, mo_f, ln_acs, el_ln, getq_map, GPart.acs_eq, GPart.flat_eq, GPart.agg_eq, GPart.el]; done))
      all_goals exact endRet ⟨_, rfl, by rw [hm]; rfl, trivial⟩
    · obtain rfl : a = b := by omega
      have hm : max a a = a := Nat.max_self a
      repeat' (first | (with_reducible first | refine awp_seq ?_ | refine awp_block ?_ | refine awp_skip ?_ | refine awp_exit ?_ | refine awp_ret ?_ | refine athen ?_ | refine thenExit ?_ | refine thenRet ?_ | refine blockNormal ?_ | refine blockExit ?_ | refine blockRet ?_ | refine roundExit ?_ | refine roundRet ?_ | refine roundExitR ?_ | refine roundRetR ?_) | ((with_reducible refine blockPass ?_ ?_); rfl) | ((with_reducible refine awp_condT ?_ ?_); rfl) | ((with_reducible refine awp_condF ?_ ?_); rfl) | ((with_reducible refine awp_reg ?_); intro K hK) | ((with_reducible refine hK _ ?_); clear hK K) | (with_reducible refine and_split ?_ ?_) | ((with_reducible refine sw_id ?_); simp (disch := first | decide | omega) only [↓pkS, pkW, pkA, undef, capsOf, ex, St.put, St.ev, kav, gdA, opI, rawI, vbin, srcOf, avsD, acsD, AV.toD, AC.toD, AV.nw, AC.nw, AC.one, Value.oneCell', fillA, D.one, D.ones, D.sz, D.szs, Nat.reduceAdd, Nat.reduceSub, Nat.reduceLeDiff, Nat.reduceEqDiff, reduceIte, pkN, ln_acs, el_ln, getq_map, GPart.acs_eq, GPart.flat_eq, GPart.agg_eq, GPart.el]) | (first | (with_reducible rfl) | (with_reducible refine fnok_id ?_; kernel_rfl) | exact el_strs _ | exact el_ints _ | exact el_ln _ | exact el_tk _ _ | exact el_td _ _ _ | omega | (simp; done) | (simp; omega)) | ((with_reducible refine args_id ?_); simp [ArgsOk, ArgOk, argsD, argD, AC.toD, Value.oneCell', sl_flat, leaf_flat, li_flat, ls_flat, sl_agg, leaf_agg, li_agg, ls_agg, mo_t, mo_f, ln_acs, el_ln, getq_map, GPart.acs_eq, GPart.flat_eq, GPart.agg_eq, GPart.el]; done))
      all_goals exact endRet ⟨_, rfl, by rw [hm]; rfl, trivial⟩
def ic_rank_spec : IC := (.seq (.reg false [⟨(some 4), none, .mov (.k (.int .i64 0))⟩]) (.seq (.seq (.reg false [⟨(some 8), none, .mov (.t 0)⟩, ⟨(some 9), none, .mov (.t 1)⟩, ⟨(some 10), none, .call 20 [(.t 8), (.t 9)]⟩, ⟨(some 11), none, .not (.t 10)⟩]) (.cond (.t 11) (.seq (.reg false [⟨(some 4), none, .mov (.k (.int .i64 0))⟩]) .ret) .skip)) (.seq (.reg false [⟨(some 5), none, .mov (.k (.int .i64 0))⟩]) (.seq (.reg false [⟨(some 12), none, .mov (.t 0)⟩, ⟨(some 13), none, .mov (.t 1)⟩, ⟨(some 14), none, .call 69 [(.t 12), (.t 13)]⟩, ⟨(some 6), none, .mov (.t 14)⟩]) (.seq (.seq (.reg false [⟨(some 7), none, .mov (.k (.int .i64 0))⟩]) (.block 0 (.loop (.seq (.seq (.reg false [⟨(some 15), none, .mov (.t 7)⟩, ⟨(some 16), none, .mov (.t 6)⟩, ⟨(some 17), none, .len false (.t 16)⟩, ⟨(some 18), none, .bin .lss (.t 15) (.t 17)⟩]) (.cond (.t 18) .skip (.exit 0))) (.seq (.block 1 (.reg false [⟨(some 21), none, .mov (.t 5)⟩, ⟨(some 22), none, .mov (.t 0)⟩, ⟨(some 23), none, .mov (.t 6)⟩, ⟨(some 24), none, .mov (.t 7)⟩, ⟨(some 25), none, .iad 1 (.t 23) (.t 24)⟩, ⟨(some 26), none, .load 1 false (.t 25)⟩, ⟨(some 27), none, .call 33 [(.t 22), (.t 26)]⟩, ⟨(some 28), none, .call 72 [(.t 21), (.t 27)]⟩, ⟨(some 5), none, .mov (.t 28)⟩])) (.reg false [⟨(some 19), none, .mov (.t 7)⟩, ⟨(some 20), none, .bin .add (.t 19) (.k (.int .i64 1))⟩, ⟨(some 7), none, .mov (.t 20)⟩])))))) (.seq (.reg false [⟨(some 29), none, .mov (.t 5)⟩, ⟨(some 30), none, .bin .add (.t 29) (.k (.int .i64 1))⟩, ⟨(some 4), none, .mov (.t 30)⟩]) .ret))))))
theorem ic_rank_spec_ok : compC Tryz.prog (Tryz.f33.body.getD .skip) = some ic_rank_spec := by kernel_rfl
set_option maxHeartbeats 8000000 in
theorem rankOf_spec_step (l : List GPart) (z : Int) (hw : l.length + D.wts (l.map GPart.toD) ≤ 1048576) (hrec : runB l z = true → ∀ u ∈ needs l z, CallsTo Tryz.prog 33 [.sl (l.map GPart.toD), li (u : Int)] (.c false [.raw (.int .i64 (rankZ l (u : Int) : Nat))])) :
    CallsTo Tryz.prog 33 [.sl (l.map GPart.toD), li z] (.c false [.raw (.int .i64 (rankZ l z : Nat))]) := by
  have hn : l.length ≤ 1048576 := by omega
  have hrun := isRunnable_spec_to l z hw
  refine calls_one (fn := Tryz.f33) (t := 4) (by kernel_rfl) (by kernel_rfl) (by kernel_rfl) ic_rank_spec_ok ?_
  unfold ic_rank_spec
  change AWP _ _ _ (st0 31 _)
  simp only [undef, stS, st0, stN, D.av, D.avN, sl_agg, leaf_agg, li_agg, ls_agg, sl_acs, leaf_acs, li_acs, ls_acs, ln_acs, el_ln, getq_map, GPart.acs_eq, GPart.flat_eq, GPart.agg_eq, GPart.el, List.map_cons, List.map_nil, List.replicate, List.cons_append, List.nil_append, List.length_cons, List.length_nil, Nat.reduceAdd, Nat.reduceSub]
  cases h1 : runB l z with
  | false =>
    rw [rankZ_off h1]
    repeat' (first | (with_reducible first | refine awp_seq ?_ | refine awp_block ?_ | refine awp_skip ?_ | refine awp_exit ?_ | refine awp_ret ?_ | refine athen ?_ | refine thenExit ?_ | refine thenRet ?_ | refine blockNormal ?_ | refine blockExit ?_ | refine blockRet ?_ | refine roundExit ?_ | refine roundRet ?_ | refine roundExitR ?_ | refine roundRetR ?_) | ((with_reducible refine blockPass ?_ ?_); rfl) | ((with_reducible refine awp_condT ?_ ?_); rfl) | ((with_reducible refine awp_condF ?_ ?_); rfl) | ((with_reducible refine awp_reg ?_); intro K hK) | ((with_reducible refine hK _ ?_); clear hK K) | (with_reducible refine and_split ?_ ?_) | ((with_reducible refine ct_id ?_); first | (refine callThen hrun trivial ?_ ?_)) | ((with_reducible refine ctd_id ?_); first | (refine callThenD hrun trivial ?_ ?_)) | ((with_reducible refine sw_id ?_); simp (disch := first | decide | omega) only [↓pkS, pkW, pkA, undef, capsOf, ex, St.put, St.ev, kav, gdA, opI, rawI, vbin, srcOf, avsD, acsD, AV.toD, AC.toD, AV.nw, AC.nw, AC.one, Value.oneCell', fillA, D.one, D.ones, D.sz, D.szs, Nat.reduceAdd, Nat.reduceSub, Nat.reduceLeDiff, Nat.reduceEqDiff, reduceIte, pkN, ln_acs, el_ln, getq_map, GPart.acs_eq, GPart.flat_eq, GPart.agg_eq, GPart.el, h1]) | (first | (with_reducible rfl) | (with_reducible refine fnok_id ?_; kernel_rfl) | exact el_strs _ | exact el_ints _ | exact el_ln _ | exact el_tk _ _ | exact el_td _ _ _ | omega | (simp; done) | (simp; omega)) | ((with_reducible refine args_id ?_); simp [ArgsOk, ArgOk, argsD, argD, AC.toD, Value.oneCell', sl_flat, leaf_flat, li_flat, ls_flat, sl_agg, leaf_agg, li_agg, ls_agg, mo_t, mo_f, ln_acs, el_ln, getq_map, GPart.acs_eq, GPart.flat_eq, GPart.agg_eq, GPart.el, h1]; done))
    exact endRet ⟨_, rfl, rfl, trivial⟩
  | true =>
    obtain ⟨h0, hlt⟩ := runB_in l z h1
    obtain ⟨k0, rfl⟩ : ∃ k0 : Nat, z = (k0 : Int) := ⟨z.toNat, by omega⟩
    have hrec := hrec h1
    have hne := needs_spec_to l (k0 : Int) hw
    have hnl := needs_len l (k0 : Int)
    have heq := rk_eq l k0
    have hrl := rk_le l k0
    have hzr := rankZ_on h1
    have hrun2 : ∀ u ∈ needs l (k0 : Int), runB l (u : Int) = true := fun u hu => nd_run hu
    unfold nd at heq
    obtain ⟨us, hus⟩ : ∃ us, needs l (k0 : Int) = us := ⟨_, rfl⟩
    rw [hus] at hrec hne hnl heq hrun2
    rw [hzr, heq]
    rw [heq] at hrl
    repeat' (first | (with_reducible first | refine awp_seq ?_ | refine awp_block ?_ | refine awp_skip ?_ | refine awp_exit ?_ | refine awp_ret ?_ | refine athen ?_ | refine thenExit ?_ | refine thenRet ?_ | refine blockNormal ?_ | refine blockExit ?_ | refine blockRet ?_ | refine roundExit ?_ | refine roundRet ?_ | refine roundExitR ?_ | refine roundRetR ?_) | ((with_reducible refine blockPass ?_ ?_); rfl) | ((with_reducible refine awp_condT ?_ ?_); rfl) | ((with_reducible refine awp_condF ?_ ?_); rfl) | ((with_reducible refine awp_reg ?_); intro K hK) | ((with_reducible refine hK _ ?_); clear hK K) | (with_reducible refine and_split ?_ ?_) | ((with_reducible refine ct_id ?_); first | (refine callThen hrun trivial ?_ ?_) | (refine callOwn hne (el_ln _) ?_ ?_)) | ((with_reducible refine ctd_id ?_); first | (refine callThenD hrun trivial ?_ ?_)) | ((with_reducible refine sw_id ?_); simp (disch := first | decide | omega) only [↓pkS, pkW, pkA, undef, capsOf, ex, St.put, St.ev, kav, gdA, opI, rawI, vbin, srcOf, avsD, acsD, AV.toD, AC.toD, AV.nw, AC.nw, AC.one, Value.oneCell', fillA, D.one, D.ones, D.sz, D.szs, Nat.reduceAdd, Nat.reduceSub, Nat.reduceLeDiff, Nat.reduceEqDiff, reduceIte, pkN, ln_acs, el_ln, getq_map, GPart.acs_eq, GPart.flat_eq, GPart.agg_eq, GPart.el, h1]) | (first | (with_reducible rfl) | (with_reducible refine fnok_id ?_; kernel_rfl) | exact el_strs _ | exact el_ints _ | exact el_ln _ | exact el_tk _ _ | exact el_td _ _ _ | omega | (simp; done) | (simp; omega)) | ((with_reducible refine args_id ?_); simp [ArgsOk, ArgOk, argsD, argD, AC.toD, Value.oneCell', sl_flat, leaf_flat, li_flat, ls_flat, sl_agg, leaf_agg, li_agg, ls_agg, mo_t, mo_f, ln_acs, el_ln, getq_map, GPart.acs_eq, GPart.flat_eq, GPart.agg_eq, GPart.el, h1]; done))
    refine awp_loopB (X := Nat) (fun q => [.k, .d, .d, .d, .d, .v (.c false [.raw (.int .i64 (mxOf (rk l) (us.take q) : Nat))]), .k, .v (.c false [.raw (.int .i64 (q : Nat))]), .d, .d, .d, .d, .d, .d, .d, .d, .d, .d, .d, .d, .d, .d, .d, .d, .d, .d, .d, .d, .d, .d, .d]) (fun q => [⟨us.map ln, 3, 1, 0, true⟩]) (fun q bs => []) (fun q => q ≤ us.length) (fun q => us.length - q) 0 (Nat.zero_le _) ?_ ?_
    · simp [StLe', FrLe, OwnLe, BoxLe, AV.fits, AC.fits, FB, mask, mxOf]
    rintro k hk
    have hk' : k ≤ us.length := hk
    clear hk
    simp only [FB, mask]
    by_cases hlk : k < us.length
    · have hm := List.getElem_mem hlk
      have hcall := hrec us[k] hm
      rw [rankZ_on (hrun2 us[k] hm)] at hcall
      have hmax := l1Max_to (mxOf (rk l) (us.take k)) (rk l us[k])
      rw [← mxOf_take (rk l) us hlk] at hmax
      repeat' (first | (with_reducible first | refine awp_seq ?_ | refine awp_block ?_ | refine awp_skip ?_ | refine awp_exit ?_ | refine awp_ret ?_ | refine athen ?_ | refine thenExit ?_ | refine thenRet ?_ | refine blockNormal ?_ | refine blockExit ?_ | refine blockRet ?_ | refine roundExit ?_ | refine roundRet ?_ | refine roundExitR ?_ | refine roundRetR ?_) | ((with_reducible refine blockPass ?_ ?_); rfl) | ((with_reducible refine awp_condT ?_ ?_); rfl) | ((with_reducible refine awp_condF ?_ ?_); rfl) | ((with_reducible refine awp_reg ?_); intro K hK) | ((with_reducible refine hK _ ?_); clear hK K) | (with_reducible refine and_split ?_ ?_) | ((with_reducible refine ct_id ?_); first | (refine callThen hcall trivial ?_ ?_) | (refine callThen hmax trivial ?_ ?_)) | ((with_reducible refine ctd_id ?_); first | (refine callThenD hcall trivial ?_ ?_) | (refine callThenD hmax trivial ?_ ?_)) | ((with_reducible refine sw_id ?_); simp (disch := first | decide | omega) only [↓pkS, pkW, pkA, undef, capsOf, ex, St.put, St.ev, kav, gdA, opI, rawI, vbin, srcOf, avsD, acsD, AV.toD, AC.toD, AV.nw, AC.nw, AC.one, Value.oneCell', fillA, D.one, D.ones, D.sz, D.szs, Nat.reduceAdd, Nat.reduceSub, Nat.reduceLeDiff, Nat.reduceEqDiff, reduceIte, pkN, ln_acs, el_ln, getq_map, GPart.acs_eq, GPart.flat_eq, GPart.agg_eq, GPart.el]) | (first | (with_reducible rfl) | (with_reducible refine fnok_id ?_; kernel_rfl) | exact el_strs _ | exact el_ints _ | exact el_ln _ | exact el_tk _ _ | exact el_td _ _ _ | omega | (simp; done) | (simp; omega)) | ((with_reducible refine args_id ?_); simp [ArgsOk, ArgOk, argsD, argD, AC.toD, Value.oneCell', sl_flat, leaf_flat, li_flat, ls_flat, sl_agg, leaf_agg, li_agg, ls_agg, mo_t, mo_f, ln_acs, el_ln, getq_map, GPart.acs_eq, GPart.flat_eq, GPart.agg_eq, GPart.el]; done))
      refine roundB (k + 1) ?_ (show k + 1 ≤ us.length by omega) (show us.length - (k + 1) < us.length - k by omega)
      simp [StLe', FrLe, OwnLe, BoxLe, AV.fits, AC.fits, FB, mask]
    · obtain rfl : k = us.length := by omega
      rw [List.take_length]
      repeat' (first | (with_reducible first | refine awp_seq ?_ | refine awp_block ?_ | refine awp_skip ?_ | refine awp_exit ?_ | refine awp_ret ?_ | refine athen ?_ | refine thenExit ?_ | refine thenRet ?_ | refine blockNormal ?_ | refine blockExit ?_ | refine blockRet ?_ | refine roundExit ?_ | refine roundRet ?_ | refine roundExitR ?_ | refine roundRetR ?_) | ((with_reducible refine blockPass ?_ ?_); rfl) | ((with_reducible refine awp_condT ?_ ?_); rfl) | ((with_reducible refine awp_condF ?_ ?_); rfl) | ((with_reducible refine awp_reg ?_); intro K hK) | ((with_reducible refine hK _ ?_); clear hK K) | (with_reducible refine and_split ?_ ?_) | ((with_reducible refine sw_id ?_); simp (disch := first | decide | omega) only [↓pkS, pkW, pkA, undef, capsOf, ex, St.put, St.ev, kav, gdA, opI, rawI, vbin, srcOf, avsD, acsD, AV.toD, AC.toD, AV.nw, AC.nw, AC.one, Value.oneCell', fillA, D.one, D.ones, D.sz, D.szs, Nat.reduceAdd, Nat.reduceSub, Nat.reduceLeDiff, Nat.reduceEqDiff, reduceIte, pkN, ln_acs, el_ln, getq_map, GPart.acs_eq, GPart.flat_eq, GPart.agg_eq, GPart.el]) | (first | (with_reducible rfl) | (with_reducible refine fnok_id ?_; kernel_rfl) | exact el_strs _ | exact el_ints _ | exact el_ln _ | exact el_tk _ _ | exact el_td _ _ _ | omega | (simp; done) | (simp; omega)) | ((with_reducible refine args_id ?_); simp [ArgsOk, ArgOk, argsD, argD, AC.toD, Value.oneCell', sl_flat, leaf_flat, li_flat, ls_flat, sl_agg, leaf_agg, li_agg, ls_agg, mo_t, mo_f, ln_acs, el_ln, getq_map, GPart.acs_eq, GPart.flat_eq, GPart.agg_eq, GPart.el]; done))
      exact endRet ⟨_, rfl, by first | rfl | (simp only [AcFits]; congr 1; omega) | (show _ = _; congr 1; push_cast; omega), trivial⟩
theorem rankOf_spec_to (l : List GPart) (hw : l.length + D.wts (l.map GPart.toD) ≤ 1048576) : ∀ (m : Nat) (z : Int), (runB l z = true → mu l z.toNat < m) → CallsTo Tryz.prog 33 [.sl (l.map GPart.toD), li z] (.c false [.raw (.int .i64 (rankZ l z : Nat))])
  | 0, z, h => rankOf_spec_step l z hw fun h1 => absurd (h h1) (by omega)
  | m + 1, z, h => rankOf_spec_step l z hw fun h1 u hu => rankOf_spec_to l hw m (u : Int) fun _ => by
    have h2 := h h1
    obtain ⟨h0, hlt⟩ := runB_in l z h1
    obtain ⟨k0, rfl⟩ : ∃ k0 : Nat, z = (k0 : Int) := ⟨z.toNat, by omega⟩
    have := mu_lt (l := l) (k := k0) hu
    simp only [Int.toNat_natCast] at h2 ⊢
    omega
/-! ### The program's order -/
noncomputable def okR (l : List GPart) (o : List Int) (k : Nat) : Bool := !hasZ o (k : Int) && runB l (k : Int) && allB (needs l (k : Int)) o
noncomputable def nxt (l : List GPart) (o : List Int) : Option Nat := (List.range l.length).find? (okR l o)
noncomputable def runIt (l : List GPart) : Nat → List Int
  | 0 => []
  | j + 1 => match nxt l (runIt l j) with | some k => runIt l j ++ [(k : Int)] | none => runIt l j
noncomputable def ordL (l : List GPart) : List Int := runIt l (l.length + 1)
theorem nxt_some {l : List GPart} {o : List Int} {k : Nat} (h : k < l.length) (e : okR l o k = true) (hn : ∀ m, m < k → okR l o m = false) : nxt l o = some k := by
  unfold nxt
  rw [List.find?_range_eq_some]
  exact ⟨e, List.mem_range.2 h, fun j hj => by rw [hn j hj]; rfl⟩
theorem nxt_none {l : List GPart} {o : List Int} : nxt l o = none ↔ ∀ m, m < l.length → okR l o m = false := by
  unfold nxt
  rw [List.find?_range_eq_none]
  exact ⟨fun h m hm => by have := h m hm; simpa using this, fun h m hm => by rw [h m hm]; rfl⟩
theorem runIt_some {l : List GPart} {j k : Nat} (h : nxt l (runIt l j) = some k) : runIt l (j + 1) = runIt l j ++ [(k : Int)] := by rw [runIt, h]
theorem runIt_none {l : List GPart} {j : Nat} (h : nxt l (runIt l j) = none) : ∀ i, runIt l (j + i) = runIt l j
  | 0 => rfl
  | i + 1 => by
    have ih := runIt_none h i
    rw [← Nat.add_assoc, runIt, ih, h]
theorem okAt_app {R : Int → Bool} {M : Int → List Int → Bool} {o : List Int} {z : Int} {k : Nat} (h : k < o.length) : okAt R M (o ++ [z]) k = okAt R M o k := by
  rw [okAt_at h, okAt_at (by simp; omega), List.getElem_append_left h, List.take_append_of_le_length (by omega)]
theorem okTo_app {R : Int → Bool} {M : Int → List Int → Bool} {o : List Int} {z : Int} : ∀ {k : Nat}, k ≤ o.length → okTo R M (o ++ [z]) k = okTo R M o k
  | 0, _ => rfl
  | k + 1, h => by
    simp only [okTo]
    rw [okTo_app (by omega), okAt_app (by omega)]
theorem okTo_add {l : List GPart} {o : List Int} {k : Nat} (h : okTo (runB l) (metB l) o o.length = true) (e : okR l o k = true) : okTo (runB l) (metB l) (o ++ [(k : Int)]) (o ++ [(k : Int)]).length = true := by
  have hl : (o ++ [(k : Int)]).length = o.length + 1 := by simp
  unfold okR at e
  simp only [Bool.and_eq_true] at e
  rw [hl]
  simp only [okTo]
  rw [okTo_app (Nat.le_refl _), h, okAt_at (by simp)]
  simp only [List.take_left', List.getElem_concat_length, List.getElem_append_right, Nat.le_refl, Nat.sub_self, List.getElem_cons_zero]
  unfold metB
  rw [e.1.1, e.1.2, e.2]
  rfl

def ic_ord_run : IC := (.seq (.reg false [⟨(some 2), none, .mov (.k (.slice none 0 0))⟩]) (.seq (.reg false [⟨(some 5), none, .brow true 3 1 0 false []⟩, ⟨(some 3), none, .mov (.t 5)⟩]) (.block 0 (.loop (.block 1 (.seq (.reg false [⟨(some 4), none, .mov (.k (.int .i64 0))⟩]) (.seq (.block 2 (.loop (.seq (.seq (.reg false [⟨(some 6), none, .mov (.t 4)⟩, ⟨(some 7), none, .mov (.t 0)⟩, ⟨(some 8), none, .len false (.t 7)⟩, ⟨(some 9), none, .bin .lss (.t 6) (.t 8)⟩, ⟨(some 10), none, .mov (.t 9)⟩, ⟨(some 11), (some (10, true)), .mov (.t 3)⟩, ⟨(some 12), (some (10, true)), .mov (.t 4)⟩, ⟨(some 13), (some (10, true)), .call 53 [(.t 11), (.t 12)]⟩, ⟨(some 14), (some (10, true)), .mov (.t 13)⟩, ⟨(some 15), (some (14, false)), .mov (.t 0)⟩, ⟨(some 16), (some (14, false)), .mov (.t 4)⟩, ⟨(some 17), (some (14, false)), .call 21 [(.t 15), (.t 16)]⟩, ⟨(some 18), (some (14, false)), .not (.t 17)⟩, ⟨(some 19), (some (10, true)), .pick (.t 14) (.k (.bool true)) (.t 18)⟩, ⟨(some 20), (some (10, true)), .mov (.t 19)⟩, ⟨(some 21), (some (20, false)), .mov (.t 0)⟩, ⟨(some 22), (some (20, false)), .mov (.t 4)⟩, ⟨(some 23), (some (20, false)), .call 71 [(.t 21), (.t 22)]⟩, ⟨(some 24), (some (20, false)), .mov (.t 3)⟩, ⟨(some 25), (some (20, false)), .call 70 [(.t 23), (.t 24)]⟩, ⟨(some 26), (some (20, false)), .not (.t 25)⟩, ⟨(some 27), (some (10, true)), .pick (.t 20) (.k (.bool true)) (.t 26)⟩, ⟨(some 28), none, .pick (.t 10) (.t 27) (.k (.bool false))⟩]) (.cond (.t 28) .skip (.exit 2))) (.block 3 (.reg false [⟨(some 29), none, .mov (.t 4)⟩, ⟨(some 30), none, .bin .add (.t 29) (.k (.int .i64 1))⟩, ⟨(some 4), none, .mov (.t 30)⟩]))))) (.seq (.seq (.reg false [⟨(some 31), none, .mov (.t 4)⟩, ⟨(some 32), none, .mov (.t 0)⟩, ⟨(some 33), none, .len false (.t 32)⟩, ⟨(some 34), none, .bin .eql (.t 31) (.t 33)⟩]) (.cond (.t 34) (.seq (.reg false [⟨(some 35), none, .mov (.t 3)⟩, ⟨(some 2), none, .mov (.t 35)⟩]) .ret) .skip)) (.reg false [⟨(some 36), none, .mov (.t 3)⟩, ⟨(some 37), none, .mov (.t 4)⟩, ⟨(some 38), none, .brow false 3 1 1 false [(.t 37)]⟩, ⟨(some 39), none, .app 3 1 (.t 36) (.t 38)⟩, ⟨(some 3), none, .mov (.t 39)⟩])))))))))
theorem ic_ord_run_ok : compC Tryz.prog (Tryz.f73.body.getD .skip) = some ic_ord_run := by kernel_rfl
theorem okR_next {l : List GPart} {o : List Int} {k : Nat} (hno : ∀ m, m < k → okR l o m = false) (e : okR l o k = false) : ∀ m, m < k + 1 → okR l o m = false := fun m hm => by
  rcases Nat.lt_or_ge m k with h' | h'
  · exact hno m h'
  · obtain rfl : m = k := by omega
    exact e
theorem okTo_n {l : List GPart} {o : List Int} (h : okTo (runB l) (metB l) o o.length = true) : o.length ≤ l.length := okTo_len (runB_in l) (Nat.le_refl _) h
set_option maxHeartbeats 8000000 in
theorem runOrder_impl_to (l : List GPart) (hw : l.length + D.wts (l.map GPart.toD) ≤ 1048576) : CallsOwn Tryz.prog 73 [.sl (l.map GPart.toD)] ((ordL l).map li) 3 1 := by
  have hn : l.length ≤ 1048576 := by omega
  refine calls_own (fn := Tryz.f73) (t := 2) (by kernel_rfl) (by kernel_rfl) (by kernel_rfl) ic_ord_run_ok ?_
  unfold ic_ord_run
  change AWP _ _ _ (st0 40 _)
  simp only [undef, stS, st0, stN, D.av, D.avN, sl_agg, leaf_agg, li_agg, ls_agg, sl_acs, leaf_acs, li_acs, ls_acs, ln_acs, el_ln, getq_map, GPart.acs_eq, GPart.flat_eq, GPart.agg_eq, GPart.el, List.map_cons, List.map_nil, List.replicate, List.cons_append, List.nil_append, List.length_cons, List.length_nil, Nat.reduceAdd, Nat.reduceSub]
  repeat' (first | (with_reducible first | refine awp_seq ?_ | refine awp_block ?_ | refine awp_skip ?_ | refine awp_exit ?_ | refine awp_ret ?_ | refine athen ?_ | refine thenExit ?_ | refine thenRet ?_ | refine blockNormal ?_ | refine blockExit ?_ | refine blockRet ?_ | refine roundExit ?_ | refine roundRet ?_ | refine roundExitR ?_ | refine roundRetR ?_) | ((with_reducible refine blockPass ?_ ?_); rfl) | ((with_reducible refine awp_condT ?_ ?_); rfl) | ((with_reducible refine awp_condF ?_ ?_); rfl) | ((with_reducible refine awp_reg ?_); intro K hK) | ((with_reducible refine sw_guardT ?_ ?_); rfl) | ((with_reducible refine sw_guardF ?_ ?_); (rfl; try simp only [St.put, undef, pkA, Nat.reduceAdd, Nat.reduceSub, Nat.reduceLeDiff, Nat.reduceEqDiff])) | ((with_reducible refine hK _ ?_); clear hK K) | (with_reducible refine and_split ?_ ?_) | ((with_reducible refine sw_id ?_); simp (disch := first | decide | omega) only [↓pkS, pkW, pkA, undef, capsOf, ex, St.put, St.ev, kav, gdA, opI, rawI, vbin, srcOf, avsD, acsD, AV.toD, AC.toD, AV.nw, AC.nw, AC.one, Value.oneCell', fillA, D.one, D.ones, D.sz, D.szs, Nat.reduceAdd, Nat.reduceSub, Nat.reduceLeDiff, Nat.reduceEqDiff, reduceIte, pkN, ln_acs, el_ln, getq_map, GPart.acs_eq, GPart.flat_eq, GPart.agg_eq, GPart.el]) | (first | (with_reducible rfl) | (with_reducible refine fnok_id ?_; kernel_rfl) | exact el_strs _ | exact el_ints _ | exact el_ln _ | exact el_tk _ _ | exact el_td _ _ _ | omega | (simp; done) | (simp; omega)) | ((with_reducible refine args_id ?_); simp [ArgsOk, ArgOk, argsD, argD, AC.toD, Value.oneCell', sl_flat, leaf_flat, li_flat, ls_flat, sl_agg, leaf_agg, li_agg, ls_agg, mo_t, mo_f, ln_acs, el_ln, getq_map, GPart.acs_eq, GPart.flat_eq, GPart.agg_eq, GPart.el]; done))
  refine awp_loopB (X := Nat × Nat) (fun q => [.k, .d, .d, .v (.c false [.own 0 q.2]), .d, .d, .d, .d, .d, .d, .d, .d, .d, .d, .d, .d, .d, .d, .d, .d, .d, .d, .d, .d, .d, .d, .d, .d, .d, .d, .d, .d, .d, .d, .d, .d, .d, .d, .d, .d]) (fun q => [⟨(runIt l q.1).map li, 3, 1, q.2, true⟩]) (fun q bs => bs) (fun q => (runIt l q.1).length = q.1 ∧ okTo (runB l) (metB l) (runIt l q.1) (runIt l q.1).length = true) (fun q => l.length - q.1) (0, 0) ⟨rfl, rfl⟩ ?_ ?_
  · simp [StLe', FrLe, OwnLe, BoxLe, AV.fits, AC.fits, FB, mask, runIt]
  rintro ⟨j, v⟩ ⟨hj, hok⟩
  simp only at hj hok
  have hjn := okTo_n hok
  have hsome := fun k => runIt_some (l := l) (j := j) (k := k)
  have hnone := runIt_none (l := l) (j := j)
  have hfin : ordL l = runIt l (l.length + 1) := rfl
  obtain ⟨o, ho⟩ : ∃ o, runIt l j = o := ⟨_, rfl⟩
  simp only [FB, mask]
  rw [ho] at hj hok hjn hnone
  simp only [ho] at hsome ⊢
  repeat' (first | (with_reducible first | refine awp_seq ?_ | refine awp_block ?_ | refine awp_skip ?_ | refine awp_exit ?_ | refine awp_ret ?_ | refine athen ?_ | refine thenExit ?_ | refine thenRet ?_ | refine blockNormal ?_ | refine blockExit ?_ | refine blockRet ?_ | refine roundExit ?_ | refine roundRet ?_ | refine roundExitR ?_ | refine roundRetR ?_) | ((with_reducible refine blockPass ?_ ?_); rfl) | ((with_reducible refine awp_condT ?_ ?_); rfl) | ((with_reducible refine awp_condF ?_ ?_); rfl) | ((with_reducible refine awp_reg ?_); intro K hK) | ((with_reducible refine sw_guardT ?_ ?_); rfl) | ((with_reducible refine sw_guardF ?_ ?_); (rfl; try simp only [St.put, undef, pkA, Nat.reduceAdd, Nat.reduceSub, Nat.reduceLeDiff, Nat.reduceEqDiff])) | ((with_reducible refine hK _ ?_); clear hK K) | (with_reducible refine and_split ?_ ?_) | ((with_reducible refine sw_id ?_); simp (disch := first | decide | omega) only [↓pkS, pkW, pkA, undef, capsOf, ex, St.put, St.ev, kav, gdA, opI, rawI, vbin, srcOf, avsD, acsD, AV.toD, AC.toD, AV.nw, AC.nw, AC.one, Value.oneCell', fillA, D.one, D.ones, D.sz, D.szs, Nat.reduceAdd, Nat.reduceSub, Nat.reduceLeDiff, Nat.reduceEqDiff, reduceIte, pkN, ln_acs, el_ln, getq_map, GPart.acs_eq, GPart.flat_eq, GPart.agg_eq, GPart.el]) | (first | (with_reducible rfl) | (with_reducible refine fnok_id ?_; kernel_rfl) | exact el_strs _ | exact el_ints _ | exact el_ln _ | exact el_tk _ _ | exact el_td _ _ _ | omega | (simp; done) | (simp; omega)) | ((with_reducible refine args_id ?_); simp [ArgsOk, ArgOk, argsD, argD, AC.toD, Value.oneCell', sl_flat, leaf_flat, li_flat, ls_flat, sl_agg, leaf_agg, li_agg, ls_agg, mo_t, mo_f, ln_acs, el_ln, getq_map, GPart.acs_eq, GPart.flat_eq, GPart.agg_eq, GPart.el]; done))
  refine awp_loopB (X := Nat) (fun q => [.k, .d, .d, .k, .v (.c false [.raw (.int .i64 (q : Nat))]), .d, .d, .d, .d, .d, .d, .d, .d, .d, .d, .d, .d, .d, .d, .d, .d, .d, .d, .d, .d, .d, .d, .d, .d, .d, .d, .d, .d, .d, .d, .d, .d, .d, .d, .d]) (fun q => [⟨o.map li, 3, 1, v, true⟩]) (fun q bs => bs) (fun q => q ≤ l.length ∧ ∀ m, m < q → okR l o m = false) (fun q => l.length - q) 0 ⟨Nat.zero_le _, fun m hm => by omega⟩ ?_ ?_
  · simp [StLe', FrLe, OwnLe, BoxLe, AV.fits, AC.fits, FB, mask]
  rintro k ⟨hk, hno⟩
  simp only [FB, mask]
  by_cases hlt : k < l.length
  · have hrun := isRunnable_impl_to l (k : Int) hw
    have hnl := needs_len l (k : Int)
    have hne := sl_of_own (needs_impl_to l (k : Int) hw)
    have hha := hasIntZ_to o (k : Int) (by omega)
    have hall := allB_impl_to (needs l (k : Int)) o (by omega) (by omega)
    have hex : okR l o k = (!hasZ o (k : Int) && runB l (k : Int) && allB (needs l (k : Int)) o) := rfl
    obtain ⟨ns, hns⟩ : ∃ ns, needs l (k : Int) = ns := ⟨_, rfl⟩
    rw [hns] at hnl hne hall hex
    cases h1 : hasZ o (k : Int) with
    | true =>
      have hnn := okR_next hno (by rw [hex, h1]; simp)
      repeat' (first | (with_reducible first | refine awp_seq ?_ | refine awp_block ?_ | refine awp_skip ?_ | refine awp_exit ?_ | refine awp_ret ?_ | refine athen ?_ | refine thenExit ?_ | refine thenRet ?_ | refine blockNormal ?_ | refine blockExit ?_ | refine blockRet ?_ | refine roundExit ?_ | refine roundRet ?_ | refine roundExitR ?_ | refine roundRetR ?_) | ((with_reducible refine blockPass ?_ ?_); rfl) | ((with_reducible refine awp_condT ?_ ?_); rfl) | ((with_reducible refine awp_condF ?_ ?_); rfl) | ((with_reducible refine awp_reg ?_); intro K hK) | ((with_reducible refine sw_guardT ?_ ?_); rfl) | ((with_reducible refine sw_guardF ?_ ?_); (rfl; try simp only [St.put, undef, pkA, Nat.reduceAdd, Nat.reduceSub, Nat.reduceLeDiff, Nat.reduceEqDiff])) | ((with_reducible refine hK _ ?_); clear hK K) | (with_reducible refine and_split ?_ ?_) | ((with_reducible refine ct_id ?_); first | (refine callThen hha trivial ?_ ?_) | (refine callThen hrun trivial ?_ ?_) | (refine callThen hne trivial ?_ ?_) | (refine callThen hall trivial ?_ ?_)) | ((with_reducible refine ctd_id ?_); first | (refine callThenD hha trivial ?_ ?_) | (refine callThenD hrun trivial ?_ ?_) | (refine callThenD hne trivial ?_ ?_) | (refine callThenD hall trivial ?_ ?_)) | ((with_reducible refine sw_id ?_); simp (disch := first | decide | omega) only [↓pkS, pkW, pkA, undef, capsOf, ex, St.put, St.ev, kav, gdA, opI, rawI, vbin, srcOf, avsD, acsD, AV.toD, AC.toD, AV.nw, AC.nw, AC.one, Value.oneCell', fillA, D.one, D.ones, D.sz, D.szs, Nat.reduceAdd, Nat.reduceSub, Nat.reduceLeDiff, Nat.reduceEqDiff, reduceIte, pkN, ln_acs, el_ln, getq_map, GPart.acs_eq, GPart.flat_eq, GPart.agg_eq, GPart.el, h1]) | (first | (with_reducible rfl) | (with_reducible refine fnok_id ?_; kernel_rfl) | exact el_strs _ | exact el_ints _ | exact el_ln _ | exact el_tk _ _ | exact el_td _ _ _ | omega | (simp; done) | (simp; omega)) | ((with_reducible refine args_id ?_); simp [ArgsOk, ArgOk, argsD, argD, AC.toD, Value.oneCell', sl_flat, leaf_flat, li_flat, ls_flat, sl_agg, leaf_agg, li_agg, ls_agg, mo_t, mo_f, ln_acs, el_ln, getq_map, GPart.acs_eq, GPart.flat_eq, GPart.agg_eq, GPart.el, h1]; done))
      refine roundB (k + 1) ?_ ⟨by omega, hnn⟩ (show l.length - (k + 1) < l.length - k by omega)
      simp [StLe', FrLe, OwnLe, BoxLe, AV.fits, AC.fits, FB, mask]
    | false =>
      cases h2 : runB l (k : Int) with
      | false =>
        have hnn := okR_next hno (by rw [hex, h2]; simp)
        repeat' (first | (with_reducible first | refine awp_seq ?_ | refine awp_block ?_ | refine awp_skip ?_ | refine awp_exit ?_ | refine awp_ret ?_ | refine athen ?_ | refine thenExit ?_ | refine thenRet ?_ | refine blockNormal ?_ | refine blockExit ?_ | refine blockRet ?_ | refine roundExit ?_ | refine roundRet ?_ | refine roundExitR ?_ | refine roundRetR ?_) | ((with_reducible refine blockPass ?_ ?_); rfl) | ((with_reducible refine awp_condT ?_ ?_); rfl) | ((with_reducible refine awp_condF ?_ ?_); rfl) | ((with_reducible refine awp_reg ?_); intro K hK) | ((with_reducible refine sw_guardT ?_ ?_); rfl) | ((with_reducible refine sw_guardF ?_ ?_); (rfl; try simp only [St.put, undef, pkA, Nat.reduceAdd, Nat.reduceSub, Nat.reduceLeDiff, Nat.reduceEqDiff])) | ((with_reducible refine hK _ ?_); clear hK K) | (with_reducible refine and_split ?_ ?_) | ((with_reducible refine ct_id ?_); first | (refine callThen hha trivial ?_ ?_) | (refine callThen hrun trivial ?_ ?_) | (refine callThen hne trivial ?_ ?_) | (refine callThen hall trivial ?_ ?_)) | ((with_reducible refine ctd_id ?_); first | (refine callThenD hha trivial ?_ ?_) | (refine callThenD hrun trivial ?_ ?_) | (refine callThenD hne trivial ?_ ?_) | (refine callThenD hall trivial ?_ ?_)) | ((with_reducible refine sw_id ?_); simp (disch := first | decide | omega) only [↓pkS, pkW, pkA, undef, capsOf, ex, St.put, St.ev, kav, gdA, opI, rawI, vbin, srcOf, avsD, acsD, AV.toD, AC.toD, AV.nw, AC.nw, AC.one, Value.oneCell', fillA, D.one, D.ones, D.sz, D.szs, Nat.reduceAdd, Nat.reduceSub, Nat.reduceLeDiff, Nat.reduceEqDiff, reduceIte, pkN, ln_acs, el_ln, getq_map, GPart.acs_eq, GPart.flat_eq, GPart.agg_eq, GPart.el, h1, h2]) | (first | (with_reducible rfl) | (with_reducible refine fnok_id ?_; kernel_rfl) | exact el_strs _ | exact el_ints _ | exact el_ln _ | exact el_tk _ _ | exact el_td _ _ _ | omega | (simp; done) | (simp; omega)) | ((with_reducible refine args_id ?_); simp [ArgsOk, ArgOk, argsD, argD, AC.toD, Value.oneCell', sl_flat, leaf_flat, li_flat, ls_flat, sl_agg, leaf_agg, li_agg, ls_agg, mo_t, mo_f, ln_acs, el_ln, getq_map, GPart.acs_eq, GPart.flat_eq, GPart.agg_eq, GPart.el, h1, h2]; done))
        refine roundB (k + 1) ?_ ⟨by omega, hnn⟩ (show l.length - (k + 1) < l.length - k by omega)
        simp [StLe', FrLe, OwnLe, BoxLe, AV.fits, AC.fits, FB, mask]
      | true =>
        cases h3 : allB ns o with
        | false =>
          have hnn := okR_next hno (by rw [hex, h3]; simp)
          repeat' (first | (with_reducible first | refine awp_seq ?_ | refine awp_block ?_ | refine awp_skip ?_ | refine awp_exit ?_ | refine awp_ret ?_ | refine athen ?_ | refine thenExit ?_ | refine thenRet ?_ | refine blockNormal ?_ | refine blockExit ?_ | refine blockRet ?_ | refine roundExit ?_ | refine roundRet ?_ | refine roundExitR ?_ | refine roundRetR ?_) | ((with_reducible refine blockPass ?_ ?_); rfl) | ((with_reducible refine awp_condT ?_ ?_); rfl) | ((with_reducible refine awp_condF ?_ ?_); rfl) | ((with_reducible refine awp_reg ?_); intro K hK) | ((with_reducible refine sw_guardT ?_ ?_); rfl) | ((with_reducible refine sw_guardF ?_ ?_); (rfl; try simp only [St.put, undef, pkA, Nat.reduceAdd, Nat.reduceSub, Nat.reduceLeDiff, Nat.reduceEqDiff])) | ((with_reducible refine hK _ ?_); clear hK K) | (with_reducible refine and_split ?_ ?_) | ((with_reducible refine ct_id ?_); first | (refine callThen hha trivial ?_ ?_) | (refine callThen hrun trivial ?_ ?_) | (refine callThen hne trivial ?_ ?_) | (refine callThen hall trivial ?_ ?_)) | ((with_reducible refine ctd_id ?_); first | (refine callThenD hha trivial ?_ ?_) | (refine callThenD hrun trivial ?_ ?_) | (refine callThenD hne trivial ?_ ?_) | (refine callThenD hall trivial ?_ ?_)) | ((with_reducible refine sw_id ?_); simp (disch := first | decide | omega) only [↓pkS, pkW, pkA, undef, capsOf, ex, St.put, St.ev, kav, gdA, opI, rawI, vbin, srcOf, avsD, acsD, AV.toD, AC.toD, AV.nw, AC.nw, AC.one, Value.oneCell', fillA, D.one, D.ones, D.sz, D.szs, Nat.reduceAdd, Nat.reduceSub, Nat.reduceLeDiff, Nat.reduceEqDiff, reduceIte, pkN, ln_acs, el_ln, getq_map, GPart.acs_eq, GPart.flat_eq, GPart.agg_eq, GPart.el, h1, h2, h3]) | (first | (with_reducible rfl) | (with_reducible refine fnok_id ?_; kernel_rfl) | exact el_strs _ | exact el_ints _ | exact el_ln _ | exact el_tk _ _ | exact el_td _ _ _ | omega | (simp; done) | (simp; omega)) | ((with_reducible refine args_id ?_); simp [ArgsOk, ArgOk, argsD, argD, AC.toD, Value.oneCell', sl_flat, leaf_flat, li_flat, ls_flat, sl_agg, leaf_agg, li_agg, ls_agg, mo_t, mo_f, ln_acs, el_ln, getq_map, GPart.acs_eq, GPart.flat_eq, GPart.agg_eq, GPart.el, h1, h2, h3]; done))
          refine roundB (k + 1) ?_ ⟨by omega, hnn⟩ (show l.length - (k + 1) < l.length - k by omega)
          simp [StLe', FrLe, OwnLe, BoxLe, AV.fits, AC.fits, FB, mask]
        | true =>
          rw [h1, h2, h3] at hex
          have hadd := okTo_add hok hex
          have hs := hsome k (nxt_some hlt hex hno)
          have hjn2 := okTo_n hadd
          rw [List.length_append, List.length_cons, List.length_nil] at hjn2
          repeat' (first | (with_reducible first | refine awp_seq ?_ | refine awp_block ?_ | refine awp_skip ?_ | refine awp_exit ?_ | refine awp_ret ?_ | refine athen ?_ | refine thenExit ?_ | refine thenRet ?_ | refine blockNormal ?_ | refine blockExit ?_ | refine blockRet ?_ | refine roundExit ?_ | refine roundRet ?_ | refine roundExitR ?_ | refine roundRetR ?_) | ((with_reducible refine blockPass ?_ ?_); rfl) | ((with_reducible refine awp_condT ?_ ?_); rfl) | ((with_reducible refine awp_condF ?_ ?_); rfl) | ((with_reducible refine awp_reg ?_); intro K hK) | ((with_reducible refine sw_guardT ?_ ?_); rfl) | ((with_reducible refine sw_guardF ?_ ?_); (rfl; try simp only [St.put, undef, pkA, Nat.reduceAdd, Nat.reduceSub, Nat.reduceLeDiff, Nat.reduceEqDiff])) | ((with_reducible refine hK _ ?_); clear hK K) | (with_reducible refine and_split ?_ ?_) | ((with_reducible refine ct_id ?_); first | (refine callThen hha trivial ?_ ?_) | (refine callThen hrun trivial ?_ ?_) | (refine callThen hne trivial ?_ ?_) | (refine callThen hall trivial ?_ ?_)) | ((with_reducible refine ctd_id ?_); first | (refine callThenD hha trivial ?_ ?_) | (refine callThenD hrun trivial ?_ ?_) | (refine callThenD hne trivial ?_ ?_) | (refine callThenD hall trivial ?_ ?_)) | ((with_reducible refine sw_id ?_); simp (disch := first | decide | omega) only [↓pkS, pkW, pkA, undef, capsOf, ex, St.put, St.ev, kav, gdA, opI, rawI, vbin, srcOf, avsD, acsD, AV.toD, AC.toD, AV.nw, AC.nw, AC.one, Value.oneCell', fillA, D.one, D.ones, D.sz, D.szs, Nat.reduceAdd, Nat.reduceSub, Nat.reduceLeDiff, Nat.reduceEqDiff, reduceIte, pkN, ln_acs, el_ln, getq_map, GPart.acs_eq, GPart.flat_eq, GPart.agg_eq, GPart.el, h1, h2, h3]) | (first | (with_reducible rfl) | (with_reducible refine fnok_id ?_; kernel_rfl) | exact el_strs _ | exact el_ints _ | exact el_ln _ | exact el_tk _ _ | exact el_td _ _ _ | omega | (simp; done) | (simp; omega)) | ((with_reducible refine args_id ?_); simp [ArgsOk, ArgOk, argsD, argD, AC.toD, Value.oneCell', sl_flat, leaf_flat, li_flat, ls_flat, sl_agg, leaf_agg, li_agg, ls_agg, mo_t, mo_f, ln_acs, el_ln, getq_map, GPart.acs_eq, GPart.flat_eq, GPart.agg_eq, GPart.el, h1, h2, h3]; done))
          all_goals first
            | (simp only [List.length_map, List.length_append, List.length_cons, List.length_nil]; omega)
            | (refine roundB (j + 1, v + 1) ?_ ⟨by simp only [hs]; simp; omega, by simp only [hs]; exact hadd⟩ (show l.length - (j + 1) < l.length - j by omega)
               simp [StLe', FrLe, OwnLe, BoxLe, AV.fits, AC.fits, FB, mask, hs, li])
  · obtain rfl : k = l.length := by omega
    have he := hnone (nxt_none.2 hno) (l.length + 1 - j)
    rw [show j + (l.length + 1 - j) = l.length + 1 by omega, ← hfin] at he
    rw [he]
    repeat' (first | (with_reducible first | refine awp_seq ?_ | refine awp_block ?_ | refine awp_skip ?_ | refine awp_exit ?_ | refine awp_ret ?_ | refine athen ?_ | refine thenExit ?_ | refine thenRet ?_ | refine blockNormal ?_ | refine blockExit ?_ | refine blockRet ?_ | refine roundExit ?_ | refine roundRet ?_ | refine roundExitR ?_ | refine roundRetR ?_) | ((with_reducible refine blockPass ?_ ?_); rfl) | ((with_reducible refine awp_condT ?_ ?_); rfl) | ((with_reducible refine awp_condF ?_ ?_); rfl) | ((with_reducible refine awp_reg ?_); intro K hK) | ((with_reducible refine sw_guardT ?_ ?_); rfl) | ((with_reducible refine sw_guardF ?_ ?_); (rfl; try simp only [St.put, undef, pkA, Nat.reduceAdd, Nat.reduceSub, Nat.reduceLeDiff, Nat.reduceEqDiff])) | ((with_reducible refine hK _ ?_); clear hK K) | (with_reducible refine and_split ?_ ?_) | ((with_reducible refine sw_id ?_); simp (disch := first | decide | omega) only [↓pkS, pkW, pkA, undef, capsOf, ex, St.put, St.ev, kav, gdA, opI, rawI, vbin, srcOf, avsD, acsD, AV.toD, AC.toD, AV.nw, AC.nw, AC.one, Value.oneCell', fillA, D.one, D.ones, D.sz, D.szs, Nat.reduceAdd, Nat.reduceSub, Nat.reduceLeDiff, Nat.reduceEqDiff, reduceIte, pkN, ln_acs, el_ln, getq_map, GPart.acs_eq, GPart.flat_eq, GPart.agg_eq, GPart.el]) | (first | (with_reducible rfl) | (with_reducible refine fnok_id ?_; kernel_rfl) | exact el_strs _ | exact el_ints _ | exact el_ln _ | exact el_tk _ _ | exact el_td _ _ _ | omega | (simp; done) | (simp; omega)) | ((with_reducible refine args_id ?_); simp [ArgsOk, ArgOk, argsD, argD, AC.toD, Value.oneCell', sl_flat, leaf_flat, li_flat, ls_flat, sl_agg, leaf_agg, li_agg, ls_agg, mo_t, mo_f, ln_acs, el_ln, getq_map, GPart.acs_eq, GPart.flat_eq, GPart.agg_eq, GPart.el]; done))
    exact endRet ⟨0, _, _, rfl, rfl, rfl, rfl, rfl, rfl, Or.inl rfl⟩
/-- All that can be run stand in the order, with what they need before them. -/
theorem ordL_ok (l : List GPart) : okTo (runB l) (metB l) (ordL l) (ordL l).length = true ∧ nxt l (ordL l) = none := by
  have key : ∀ j, okTo (runB l) (metB l) (runIt l j) (runIt l j).length = true ∧ (nxt l (runIt l j) = none ∨ (runIt l j).length = j) := by
    intro j
    induction j with
    | zero => exact ⟨rfl, Or.inr rfl⟩
    | succ j ih =>
      cases hx : nxt l (runIt l j) with
      | none =>
        have := runIt_none hx 1
        rw [this]
        exact ⟨ih.1, Or.inl hx⟩
      | some k =>
        have hs := runIt_some hx
        have h1 := hx
        unfold nxt at h1
        rw [List.find?_range_eq_some] at h1
        rw [hs]
        refine ⟨okTo_add ih.1 h1.1, Or.inr ?_⟩
        rcases ih.2 with h | h
        · rw [hx] at h; cases h
        · simp [h]
  obtain ⟨h1, h2⟩ := key (l.length + 1)
  refine ⟨h1, ?_⟩
  rcases h2 with h | h
  · exact h
  · have := okTo_n h1
    omega
theorem ordL_all (l : List GPart) : ∀ (m k : Nat), mu l k ≤ m → runB l (k : Int) = true → hasZ (ordL l) (k : Int) = true := by
  intro m
  induction m with
  | zero => 
    intro k hm h
    have hn : ∀ u ∈ nd l k, hasZ (ordL l) (u : Int) = true := fun u hu => absurd (mu_lt hu) (by omega)
    have h1 := nxt_none.1 (ordL_ok l).2 k (by have := runB_in l _ h; omega)
    unfold okR at h1
    have h2 : allB (needs l (k : Int)) (ordL l) = true := List.all_eq_true.2 hn
    rw [h, h2] at h1
    simpa using h1
  | succ m ih =>
    intro k hm h
    have hn : ∀ u ∈ nd l k, hasZ (ordL l) (u : Int) = true := fun u hu => ih u (by have := mu_lt hu; omega) (nd_run hu)
    have h1 := nxt_none.1 (ordL_ok l).2 k (by have := runB_in l _ h; omega)
    unfold okR at h1
    have h2 : allB (needs l (k : Int)) (ordL l) = true := List.all_eq_true.2 hn
    rw [h, h2] at h1
    simpa using h1
theorem ordL_at (l : List GPart) {j : Nat} (h : j < (ordL l).length) : ∃ k : Nat, (ordL l)[j] = (k : Int) ∧ runB l (k : Int) = true ∧ ¬ (k : Int) ∈ (ordL l).take j ∧ ∀ u ∈ nd l k, (u : Int) ∈ (ordL l).take j := by
  have h1 := okTo_mono (k := j + 1) h (ordL_ok l).1
  simp only [okTo, Bool.and_eq_true] at h1
  have h2 := h1.2
  rw [okAt_at h] at h2
  simp only [Bool.and_eq_true, Bool.not_eq_true'] at h2
  obtain ⟨h0, hlt⟩ := runB_in l _ h2.1.1
  refine ⟨(ordL l)[j].toNat, by omega, ?_, ?_, ?_⟩
  · rw [Int.toNat_of_nonneg h0]; exact h2.1.1
  · rw [Int.toNat_of_nonneg h0]
    intro hm
    rw [hasZ_iff.2 hm] at h2
    simp at h2
  · intro u hu
    unfold nd at hu
    rw [Int.toNat_of_nonneg h0] at hu
    exact hasZ_iff.1 (List.all_eq_true.1 h2.2 u hu)
end Go.Proofs.YtkjodhljaehkjaaGreat

namespace Go.Proofs.YtkjodhljaehkjaaGreat
open Go.RowKit
set_option linter.unusedSimpArgs false
set_option linter.unusedVariables false
/-! ### A map of numbers -/
def Rnk (w : World) (b n : Nat) (f : Int → Int) : Prop := ∃ D : DataW Unit, w.ownsMap Tryz.prog 3 (plainElem Tryz.prog 3) b n D ∧ Maps.IsMap D ∧ ∀ z : Int, (Lit.int .i64 z).wf = true → D.atKey (.int .i64 z) (.lit (.int .i64 0)) = .lit (.int .i64 (f z))
def mi : TypeId := 74
theorem mi_u : Tryz.prog.underlying mi = some (.map 3 3) := by kernel_rfl
theorem int_z (w : World) : (zeroValue 3).run Tryz.prog w = .ok (.int .i64 0) w := by kernel_rfl
theorem Rnk.look {w : World} {b n : Nat} {f : Int → Int} (h : Rnk w b n f) {z : Int} (hz : (Lit.int .i64 z).wf = true) : (Instr.lookup mi (.map (some b)) (.int .i64 z) false).run Tryz.prog w = .ok (.int .i64 (f z)) w := by
  obtain ⟨D, h1, h2, h3⟩ := h
  obtain ⟨c, hrun, hv, _⟩ := h1.lookup_int (Maps.int_keyed int_u) mi_u int_u (int_z w) (Maps.keyOf_int_mk int_u hz)
  rw [h3 z hz] at hv
  have : c = f z := by simpa using hv.symm
  rw [hrun, this]
theorem Rnk.put {w : World} {b n : Nat} {f : Int → Int} (h : Rnk w b n f) {z a : Int} (hz : (Lit.int .i64 z).wf = true) (ha : (Lit.int .i64 a).wf = true) (hn : n < maxLen) :
    ∃ w', (Instr.mapUpdate mi (.map (some b)) (.int .i64 z) (.int .i64 a)).run Tryz.prog w = .ok () w' ∧ Rnk w' b (n + 1) (fun y => if y = z then a else f y) ∧ w.grownBy w' (some b) := by
  obtain ⟨D, h1, h2, h3⟩ := h
  obtain ⟨w', hrun, g1, g2⟩ := h1.update (Maps.int_keyed int_u) mi_u hn (Maps.keyOf_int_mk int_u hz) (plainElem_int int_u ha)
  refine ⟨w', hrun, ⟨_, g1, h2.put _ _, fun y hy => ?_⟩, g2⟩
  by_cases e : y = z
  · subst e
    rw [Maps.atKey_put_same h2 (by simp [WideAt.IsKeyLit])]
    simp
  · rw [Maps.atKey_put_other (fun h => e (by simp only [Lit.int.injEq, true_and] at h; omega)), h3 y hy]
    simp [e]
theorem Rnk.mono {w : World} {b n m : Nat} {f : Int → Int} (h : Rnk w b n f) (hm : n ≤ m) : Rnk w b m f := by
  obtain ⟨D, h1, h2, h3⟩ := h
  exact ⟨D, h1.mono hm, h2, h3⟩
theorem Rnk.congr {w : World} {b n : Nat} {f g : Int → Int} (h : Rnk w b n f) (hfg : ∀ z, f z = g z) : Rnk w b n g := by
  obtain ⟨D, h1, h2, h3⟩ := h
  exact ⟨D, h1, h2, fun z hz => by rw [h3 z hz, hfg]⟩
theorem Rnk.made (w : World) : Rnk (w.alloc (.map #[] 0)) w.heap.size 0 (fun _ => 0) := ⟨.map [], World.ownsMap_made w _ _ _, Maps.isMap_empty, fun x _ => by simp [DataW.atKey]⟩
theorem Rnk.lt {w : World} {b n : Nat} {f : Int → Int} (h : Rnk w b n f) : b < w.heap.size := by
  obtain ⟨D, h1, _⟩ := h
  exact h1.lt
theorem Rnk.below {w w' : World} {b n : Nat} {f : Int → Int} (h : Rnk w b n f) (hb : Below w.heap.size w w') : Rnk w' b n f := by
  have hlt := h.lt
  obtain ⟨D, ⟨es, clock, h4, F, hs, hD⟩, h2, h3⟩ := h
  exact ⟨D, ⟨es, clock, (hb.block b hlt).trans h4, F, hs, hD⟩, h2, h3⟩
/-- A list over blocks that a map does not use, when the map is turned. -/
theorem Sl.turned {w w' : World} {l : List D} {fp : List Nat} {v : Value} {b : Nat} (h : Sl w l fp v) (hg : w.grownBy w' (some b)) (hb : ∀ x ∈ fp, x ≠ b) : Sl w' l fp v :=
  R.same h (fun x hx => hg.block x (R.lt h x hx) (fun e => hb x hx (by injection e))) hg.size
theorem wf_nat' {x : Nat} (h : x ≤ 4194304) : (Lit.int .i64 (x : Int)).wf = true := by
  have h1 : IntKind.i64.min ≤ (x : Int) := by simp [IntKind.min, IntKind.signed, IntKind.bits]
  have h2 : (x : Int) ≤ IntKind.i64.max := by simp [IntKind.max, IntKind.signed, IntKind.bits]; omega
  simp [Lit.wf, h1, h2]; omega
/-! ### What the map holds -/
noncomputable def fO (l : List GPart) (k : Nat) (z : Int) : Int := if hasZ ((ordL l).take k) z then (rankZ l z : Int) else 0
noncomputable def fI (l : List GPart) (k x : Nat) (us : List Nat) (i : Nat) (z : Int) : Int := if z = (x : Int) then 1 + (mxOf (rk l) (us.take i) : Int) else fO l k z
theorem fO_end (l : List GPart) (z : Int) : fO l (ordL l).length z = (rankZ l z : Int) := by
  unfold fO
  rw [List.take_length]
  cases h : hasZ (ordL l) z with
  | true => simp
  | false =>
    cases h1 : runB l z with
    | false => rw [rankZ_off h1]; simp
    | true =>
      obtain ⟨h0, hlt⟩ := runB_in l z h1
      have := ordL_all l _ z.toNat (Nat.le_refl _) (by rw [Int.toNat_of_nonneg h0]; exact h1)
      rw [Int.toNat_of_nonneg h0, h] at this
      cases this
theorem fO_next (l : List GPart) {k x : Nat} (h : k < (ordL l).length) (hx : (ordL l)[k] = (x : Int)) (hr : runB l (x : Int) = true) (z : Int) : fI l k x (nd l x) (nd l x).length z = fO l (k + 1) z := by
  unfold fI fO
  rw [List.take_length, List.take_succ_eq_append_getElem h, hx]
  unfold hasZ
  rw [List.any_append]
  by_cases e : z = (x : Int)
  · subst e
    rw [if_pos rfl, rankZ_on hr, rk_eq l x]
    simp
  · rw [if_neg e]
    have : ((x : Int) == z) = false := by rw [beq_eq_false_iff_ne]; exact fun h => e h.symm
    simp [this]
theorem fI_zero (l : List GPart) (k x : Nat) (us : List Nat) (z : Int) : (if z = (x : Int) then (1 : Int) else fO l k z) = fI l k x us 0 z := by
  unfold fI; simp [mxOf]
theorem fI_x (l : List GPart) (k x : Nat) (us : List Nat) (i : Nat) : fI l k x us i (x : Int) = ((1 + mxOf (rk l) (us.take i) : Nat) : Int) := by unfold fI; rw [if_pos rfl]; push_cast; rfl
theorem fI_u (l : List GPart) {k x u : Nat} (us : List Nat) (i : Nat) (hx : ¬ (x : Int) ∈ (ordL l).take k) (hu : (u : Int) ∈ (ordL l).take k) (hr : runB l (u : Int) = true) : fI l k x us i (u : Int) = (rk l u : Int) := by
  unfold fI fO
  rw [if_neg (fun e : (u : Int) = (x : Int) => hx (e ▸ hu)), if_pos (hasZ_iff.2 hu), rankZ_on hr]
theorem fI_next (l : List GPart) (k x : Nat) (us : List Nat) {i : Nat} (h : i < us.length) (z : Int) : (if z = (x : Int) then ((max (1 + mxOf (rk l) (us.take i)) (1 + rk l us[i]) : Nat) : Int) else fI l k x us i z) = fI l k x us (i + 1) z := by
  unfold fI
  rw [mxOf_take _ _ h]
  by_cases e : z = (x : Int)
  · rw [if_pos e, if_pos e]
    omega
  · rw [if_neg e, if_neg e, if_neg e]
set_option maxRecDepth 20000 in
set_option maxHeartbeats 4000000 in
theorem rankOf_implZ (l : List GPart) (z : Int) (hz : (Lit.int .i64 z).wf = true) (fp : List Nat) (v : Value) (w : World) (hS : Sl w (l.map GPart.toD) fp v) (hw : l.length + D.wts (l.map GPart.toD) ≤ 1048576) :
    Calls Tryz.prog 34 #[v, .int .i64 z] w (RetB (.int .i64 (rankZ l z : Nat)) w) := by
  have hn := Lib.hid (show l.length ≤ 1048576 by omega)
  have hw' := Lib.hid hw
  have hRl := okTo_n (ordL_ok l).1
  have hro0 := runOrder_impl_to l hw
  have hAt := fun j (h : j < (ordL l).length) => ordL_at l h
  have hNext := fun k x (h : k < (ordL l).length) => fO_next l (x := x) h
  have hU0 := fun k x u us i => fI_u l (k := k) (x := x) (u := u) us i
  have hEnd := fO_end l z
  have hFirst : ∀ y, fO l 0 y = 0 := fun y => by unfold fO; simp [hasZ]
  obtain ⟨R, hR0⟩ : ∃ R, ordL l = R := ⟨_, rfl⟩
  simp only [hR0] at hRl hro0 hAt hNext hU0 hEnd
  rw [← hEnd]
  have hR0 := Lib.hid hR0
  clear hEnd
  have hRl := Lib.hid hRl
  obtain ⟨A, c, rfl, hl, hc⟩ := hS.formT
  clear hl hc hw
  have hmm := @run_makeMap Tryz.prog
  have hS1 := hS.below ((Below.refl w.heap.size w).alloc (Nat.le_refl _) (.map #[] 0))
  have hro := of_own hro0 (flat_ints _) (vs := [.slice A l.length c]) (w := w.alloc (.map #[] 0)) ⟨rd_of_sl hS1, trivial⟩
  have hmR : R.length ≤ 9223372036854775807 := by have := hRl.out; have := hn.out; omega
  go_enter Tryz.func34, Tryz.ntmps34
  go_wp2_with (go_at_call 73; refine hro.mono ?_; rintro e w1 ⟨fR, vR, rfl, hR, hF, hb1⟩; obtain ⟨A1, c1, rfl, hl1, hc1⟩ := hR.formT)
  clear hl1 hc1 hro hmm hS1 hro0
  have hms : (w.alloc (.map #[] 0)).heap.size = w.heap.size + 1 := by simp
  have hk1 : Rnk w1 w.heap.size 0 (fO l 0) := ((Rnk.made w).below hb1).congr (fun z => (hFirst z).symm)
  have hG1 : Below w.heap.size w w1 := ((Below.refl w.heap.size w).alloc (Nat.le_refl _) (.map #[] 0)).trans (hb1.mono (by omega))
  have hne : ∀ x ∈ fR, x ≠ w.heap.size := fun x hx e => by have := (hF.2 x hx).1; omega
  clear hF hb1
  have hms := Lib.hid hms
  go_loopw [14] (fun iv wr => ∃ k n, k ≤ R.length ∧ iv = .int .i64 (k : Nat) ∧ n ≤ k * 1048577 ∧ Rnk wr w.heap.size n (fO l k) ∧ Sl wr (R.map li) fR (.slice A1 R.length c1) ∧ Below w.heap.size w wr) (fun iv _ => R.length - (intOf iv).toNat)
  case atStart => exact ⟨0, 0, by omega, rfl, by omega, hk1, hR, hG1⟩
  case round =>
    clear hk1 hR hG1
    obtain ⟨k, n, hk, rfl, hnk, hrk, hR, hb⟩ := hrel
    by_cases hlt : k < R.length
    · have hd : (R.map li)[k]? = some (li R[k]) := by rw [List.getElem?_map, List.getElem?_eq_getElem hlt]; rfl
      obtain ⟨x, hx, hrun, hnot, hnds⟩ := hAt k hlt
      obtain ⟨b, o, fi, ci, rfl, hbb, hbf, hri, hfi, hat⟩ := hR.elem li_szs hd
      obtain ⟨rfl, rfl⟩ := hri
      simp only [Nat.mul_one, hx] at hat
      have q0 : wr.cell? ⟨b, o + k, none⟩ = some (.int .i64 (x : Int)) := hat.head
      have hxl := (runB_in l _ hrun).2
      have hx2 : x ≤ 4194304 := by have := hn.out; omega
      have hwx := wf_nat' hx2
      obtain ⟨wa, hput, hka, hga⟩ := hrk.put hwx (a := 1) (by decide) (by have := hn.out; have := hRl.out; unfold maxLen; omega)
      have hba : Below w.heap.size w wa := hb.grown hga hb.size (fun b h => by have h := Option.some.inj h; omega)
      have hRa := hR.turned hga hne
      have hka2 := hka.congr (fun z => fI_zero l k x (nd l x) z)
      have hus := of_own (needs_impl_to l (x : Int) hw'.out) (flat_ln _) (vs := [.slice A l.length c, .int .i64 (x : Int)]) (w := wa) ⟨rd_of_sl (hS.below hba), rd_of_leaf _, trivial⟩
      have hnl := Lib.hid (needs_len l (x : Int))
      change Calls _ _ _ _ (TosPost ((nd l x).map ln) _) at hus
      have hnd : ∀ u ∈ nd l x, runB l (u : Int) = true := fun u hu => nd_run hu
      change Hid ((nd l x).length ≤ l.length) at hnl
      have hnx := fun z => hNext k x hlt hx hrun z
      obtain ⟨us, hus0⟩ : ∃ us, nd l x = us := ⟨_, rfl⟩
      rw [hus0] at hus hnl hnd hnds hka2
      simp only [hus0] at hnx
      have hmU : us.length ≤ 9223372036854775807 := by have := hnl.out; have := hn.out; omega
      have hlt' := Lib.hid hlt
      have hnk' := Lib.hid hnk
      have hx2' := Lib.hid hx2
      unfold mi at hput
      clear hat hd hrk hka hga hR hx hlt hnk hxl hbb hbf hx2
      go_wp2_with (go_at_call 71; refine hus.mono ?_; rintro e w2 ⟨fU, vU, rfl, hU, hFU, hb2⟩; obtain ⟨A2, c2, rfl, hl2, hc2⟩ := hU.formT)
      have hk2 := hka2.below hb2
      have hRb := hRa.below hb2
      have hbb2 := hba.trans (hb2.mono hba.size)
      have hltm := hka2.lt
      have hneU : ∀ y ∈ fU, y ≠ w.heap.size := fun y hy e => by have := (hFU.2 y hy).1; omega
      have hnn := Lib.hid (show n + 1 + us.length < maxLen by have := hnk'.out; have := hnl.out; have := hn.out; have := hRl.out; have := hlt'.out; unfold maxLen; omega)
      clear hus hput q0 hka2 hRa hl2 hc2 hb2 hba hFU hltm
      go_loopw [24] (fun iv ws => ∃ i n2, i ≤ us.length ∧ iv = .int .i64 (i : Nat) ∧ n2 ≤ n + 1 + i ∧ Rnk ws w.heap.size n2 (fI l k x us i) ∧ Sl ws (us.map ln) fU (.slice A2 us.length c2) ∧ Sl ws (R.map li) fR (.slice (some ⟨b, o, none⟩) R.length c1) ∧ Below w.heap.size w ws) (fun iv _ => us.length - (intOf iv).toNat)
      case atStart => exact ⟨0, n + 1, by omega, rfl, by omega, hk2, hU, hRb, hbb2⟩
      case round =>
        clear hk2 hU hRb hbb2
        obtain ⟨i, n2, hi, rfl, hn2, hk3, hU3, hR3, hb3⟩ := hrel
        by_cases hli : i < us.length
        · have hd : (us.map ln)[i]? = some (ln us[i]) := by rw [List.getElem?_map, List.getElem?_eq_getElem hli]; rfl
          obtain ⟨b2, o2, fi, ci, rfl, hbb, hbf, hri, hfi, hat⟩ := hU3.elem ln_szs hd
          obtain ⟨rfl, rfl⟩ := hri
          simp only [Nat.mul_one] at hat
          have q0 : wr.cell? ⟨b2, o2 + i, none⟩ = some (.int .i64 ((us[i] : Nat) : Int)) := hat.head
          have hmem := List.getElem_mem hli
          have hru := hnd us[i] hmem
          have hul := (runB_in l _ hru).2
          have hwu := wf_nat' (x := us[i]) (by have := hn.out; simp only [Int.toNat_natCast] at hul; omega)
          have hl1 := hk3.look hwx
          rw [fI_x] at hl1
          have hl2 := hk3.look hwu
          rw [hU0 k x us[i] us i hnot (hnds us[i] hmem) hru] at hl2
          have hrl := rk_le l us[i]
          have hml : mxOf (rk l) (us.take i) ≤ l.length + 1 := foldl_le (fun u _ => rk_le l u) (Nat.zero_le _)
          have hnx2 := fun z => fI_next l k x us hli z
          obtain ⟨r, hr0⟩ : ∃ r, rk l us[i] = r := ⟨_, rfl⟩
          obtain ⟨a, ha0⟩ : ∃ a, 1 + mxOf (rk l) (us.take i) = a := ⟨_, rfl⟩
          have ha1 : a ≤ l.length + 2 := by omega
          rw [hr0] at hl2 hrl
          rw [ha0] at hl1
          simp only [hr0, ha0] at hnx2
          have hmx : max (a : Int) (1 + (r : Int)) = ((max a (1 + r) : Nat) : Int) := by omega
          obtain ⟨wb, hput, hkb, hgb⟩ := hk3.put hwx (a := max (a : Int) (1 + (r : Int))) (by rw [hmx]; exact wf_nat' (by have := hn.out; omega)) (by have := hnn.out; omega)
          have hbw : Below w.heap.size w wb := hb3.grown hgb hb3.size (fun b h => by have h := Option.some.inj h; omega)
          have hUb := hU3.turned hgb hneU
          have hRb := hR3.turned hgb hne
          have hkb2 : Rnk wb w.heap.size (n2 + 1) (fI l k x us (i + 1)) := hkb.congr (fun y => by rw [hmx]; exact hnx2 y)
          have hab : a ≤ 4194304 ∧ r ≤ 4194303 := by have := hn.out; omega
          have hn2' := Lib.hid hn2
          unfold mi at hput hl1 hl2
          clear hd hat hk3 hkb hgb hU3 hR3 hb3 hr0 ha0 hml hrl hul hbb hbf ha1 hn2 hmx hnx2
          go_wp2_with fail
          go_roundw
          case rel => exact ⟨i + 1, n2 + 1, by omega, by go_num, by have := hn2'.out; omega, hkb2, hUb, hRb, hbw⟩
          case measure => (simp [intOf] <;> omega)
        · have hf := Lib.hid (show i = us.length by omega)
          have hk4 : Rnk wr w.heap.size n2 (fO l (k + 1)) := hk3.congr (fun y => by rw [hf.out]; exact hnx y)
          have hn2' := Lib.hid hn2
          clear hk3 hn2
          go_wp2_with fail
          go_roundw
          case rel => exact ⟨k + 1, n2, by have := hlt'.out; omega, by go_num, by have := hn2'.out; have := hnk'.out; have := hf.out; have := hnl.out; have := hn.out; omega, hk4, hR3, hb3⟩
          case measure => (have := hlt'.out; simp [intOf] <;> omega)
    · have hf := Lib.hid (show k = R.length by omega)
      have hl1 := hrk.look hz
      rw [hf.out] at hl1
      unfold mi at hl1
      clear hrk hR hnk
      go_wp2_with fail
      go_ret
      exact ⟨rfl, hb⟩
theorem rankOf_spec (l : List GPart) (z : Int) (r : Int) (hr : (rankZ l z : Int) = r) (hz : (Lit.int .i64 z).wf = true) (fp : List Nat) (v : Value) (w : World) (hS : Sl w (l.map GPart.toD) fp v) (hw : l.length + D.wts (l.map GPart.toD) ≤ 1048576) : Calls Tryz.prog 33 #[v, .int .i64 z] w (RetB (.int .i64 r) w) :=
  hr ▸ of_raw (rankOf_spec_to l hw _ z (fun _ => Nat.lt_succ_self _)) (vs := [v, .int .i64 z]) ⟨rd_of_sl hS, rd_of_leaf _, trivial⟩
theorem rankOf_impl (l : List GPart) (z : Int) (r : Int) (hr : (rankZ l z : Int) = r) (hz : (Lit.int .i64 z).wf = true) (fp : List Nat) (v : Value) (w : World) (hS : Sl w (l.map GPart.toD) fp v) (hw : l.length + D.wts (l.map GPart.toD) ≤ 1048576) : Calls Tryz.prog 34 #[v, .int .i64 z] w (RetB (.int .i64 r) w) :=
  hr ▸ rankOf_implZ l z hz fp v w hS hw
end Go.Proofs.YtkjodhljaehkjaaGreat
