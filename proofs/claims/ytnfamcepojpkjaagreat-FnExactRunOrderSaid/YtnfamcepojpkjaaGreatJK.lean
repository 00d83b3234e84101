/-
  Texts joined: Rank RankI.
-/
import Derived.Test.YtnfamcepojpkjaaGreatJG
namespace Go.Proofs.YtnfamcepojpkjaaGreat
open Go.RowKit
set_option linter.unusedSimpArgs false
set_option linter.unusedVariables false
/-! ### What is used has fewer below it -/
theorem sumF_mono1 {p q : Nat → Bool} : ∀ {n : Nat}, (∀ x, x < n → p x = true → q x = true) → sumF p (fun _ => 1) n ≤ sumF q (fun _ => 1) n
  | 0, _ => Nat.le_refl _
  | n + 1, h => by
    have ih := sumF_mono1 (p := p) (q := q) (n := n) (fun x hx => h x (by omega))
    have h2 := h n (by omega)
    simp only [sumF]
    cases hp : p n with
    | true => rw [h2 hp]; simp; exact ih
    | false => simp; omega
theorem sumF_lt1 {p q : Nat → Bool} {k : Nat} (hp : p k = false) (hq : q k = true) : ∀ {n : Nat}, (∀ x, x < n → p x = true → q x = true) → k < n → sumF p (fun _ => 1) n < sumF q (fun _ => 1) n
  | 0, _, h => by omega
  | n + 1, h, hk => by
    simp only [sumF]
    rcases Nat.lt_or_ge k n with h' | h'
    · have ih := sumF_lt1 hp hq (n := n) (fun x hx => h x (by omega)) h'
      have h2 := h n (by omega)
      cases hpn : p n with
      | true => rw [h2 hpn]; simp; exact ih
      | false => simp; omega
    · obtain rfl : k = n := by omega
      have := sumF_mono1 (p := p) (q := q) (n := k) (fun x hx => h x (by omega))
      rw [hp, hq]; simp; omega
theorem rch_con {g : Int → List Nat} {z : Int} {v x : Nat} (hv : v ∈ g z) (h : Rch g (v : Int) x) : Rch g z x := by
  induction h with
  | one h => exact .more (.one hv) h
  | more _ h ih => exact .more ih h
noncomputable def mu (l : List GPart) (k : Nat) : Nat := sumF (rchB (nrI l false) (k : Int)) (fun _ => 1) l.length
theorem mu_le (l : List GPart) (k : Nat) : mu l k ≤ l.length := sumF_le1
noncomputable def nd (l : List GPart) (k : Nat) : List Nat := needs l (k : Int)
theorem nd_run {l : List GPart} {k u : Nat} (h : u ∈ nd l k) : runB l (u : Int) = true := (List.mem_filter.1 h).2
theorem run_off {l : List GPart} {u : Nat} (h : runB l (u : Int) = true) : onC l (u : Int) = false := by
  obtain ⟨h0, h1⟩ := runB_in l _ h
  have := runB_at l h0 h1
  rw [h] at this
  cases hc : onC l (u : Int) with
  | false => rfl
  | true => rw [hc] at this; simp at this
theorem mu_lt {l : List GPart} {k u : Nat} (hu : u ∈ nd l k) : mu l u < mu l k := by
  have hd : u ∈ nrI l false (k : Int) := (List.mem_filter.1 hu).1
  have hlt : u < l.length := needs_lt l _ u hu
  refine sumF_lt1 (k := u) ?_ (rchB_iff.2 (.one hd)) (fun x hx h => rchB_iff.2 (rch_con hd (rchB_iff.1 h))) hlt
  rw [Bool.eq_false_iff]
  intro h
  have h1 := run_off (nd_run hu)
  have : onC l (u : Int) = true := by
    unfold onC
    rw [hasI_nat, List.contains_iff_mem, mem_cl]
    exact ⟨hlt, rchB_iff.1 h⟩
  rw [h1] at this
  cases this
/-! ### The ranks -/
def mxOf (g : Nat → Nat) (us : List Nat) : Nat := us.foldl (fun a u => max a (g u)) 0
theorem mxOf_congr {g h : Nat → Nat} : ∀ {us : List Nat}, (∀ u ∈ us, g u = h u) → ∀ a, us.foldl (fun a u => max a (g u)) a = us.foldl (fun a u => max a (h u)) a
  | [], _, a => rfl
  | u :: us, e, a => by
    simp only [List.foldl_cons]
    rw [e u (by simp)]
    exact mxOf_congr (fun x hx => e x (by simp [hx])) _
theorem mxOf_take (g : Nat → Nat) (us : List Nat) {k : Nat} (h : k < us.length) : mxOf g (us.take (k + 1)) = max (mxOf g (us.take k)) (g us[k]) := by
  unfold mxOf
  rw [List.take_succ_eq_append_getElem h, List.foldl_append]
  rfl
theorem foldl_le {g : Nat → Nat} {n : Nat} : ∀ {us : List Nat} {a : Nat}, (∀ u ∈ us, g u ≤ n) → a ≤ n → us.foldl (fun a u => max a (g u)) a ≤ n
  | [], a, _, h => h
  | u :: us, a, hu, h => by
    simp only [List.foldl_cons]
    exact foldl_le (fun x hx => hu x (by simp [hx])) (Nat.max_le.2 ⟨h, hu u (by simp)⟩)
def rkF (f : Nat → List Nat) : Nat → Nat → Nat
  | 0, _ => 0
  | n + 1, k => 1 + mxOf (rkF f n) (f k)
theorem rkF_le (f : Nat → List Nat) : ∀ n k, rkF f n k ≤ n
  | 0, _ => Nat.le_refl _
  | n + 1, k => by
    have : mxOf (rkF f n) (f k) ≤ n := foldl_le (fun u _ => rkF_le f n u) (Nat.zero_le _)
    simp only [rkF]; omega
noncomputable def rk (l : List GPart) (k : Nat) : Nat := rkF (nd l) (mu l k + 1) k
theorem rk_le (l : List GPart) (k : Nat) : rk l k ≤ l.length + 1 := by
  have h1 := rkF_le (nd l) (mu l k + 1) k
  have := mu_le l k
  unfold rk
  omega
theorem rk_stab (l : List GPart) : ∀ m k, mu l k ≤ m → ∀ n, mu l k < n → rkF (nd l) n k = rk l k
  | 0, k, hm, n + 1, hn => by
    unfold rk
    simp only [rkF]
    congr 1
    refine mxOf_congr (fun u hu => ?_) 0
    have := mu_lt hu
    omega
  | m + 1, k, hm, n + 1, hn => by
    unfold rk
    simp only [rkF]
    congr 1
    refine mxOf_congr (fun u hu => ?_) 0
    have hlt := mu_lt hu
    rw [rk_stab l m u (by omega) n (by omega), rk_stab l m u (by omega) (mu l k) (by omega)]
theorem rk_eq (l : List GPart) (k : Nat) : rk l k = 1 + mxOf (rk l) (nd l k) := by
  show rkF (nd l) (mu l k + 1) k = _
  simp only [rkF]
  congr 1
  exact mxOf_congr (fun u hu => rk_stab l (mu l u) u (Nat.le_refl _) _ (mu_lt hu)) 0
noncomputable def rankZ (l : List GPart) (z : Int) : Nat := if runB l z then rk l z.toNat else 0
theorem rankZ_off {l : List GPart} {z : Int} (h : runB l z = false) : rankZ l z = 0 := by unfold rankZ; rw [if_neg (by simp [h])]
theorem rankZ_on {l : List GPart} {k : Nat} (h : runB l (k : Int) = true) : rankZ l (k : Int) = rk l k := by unfold rankZ; rw [if_pos h]; simp
theorem rankZ_le (l : List GPart) (z : Int) : rankZ l z ≤ l.length + 1 := by
  unfold rankZ
  split
  · exact rk_le l _
  · omega
/-! ### The reference -/
/-! ### The program's order -/
noncomputable def okR (l : List GPart) (o : List Int) (k : Nat) : Bool := !hasZ o (k : Int) && runB l (k : Int) && allB (needs l (k : Int)) o
noncomputable def nxt (l : List GPart) (o : List Int) : Option Nat := (List.range l.length).find? (okR l o)
noncomputable def runIt (l : List GPart) : Nat → List Int
  | 0 => []
  | j + 1 => match nxt l (runIt l j) with | some k => runIt l j ++ [(k : Int)] | none => runIt l j
noncomputable def ordL (l : List GPart) : List Int := runIt l (l.length + 1)
theorem nxt_some {l : List GPart} {o : List Int} {k : Nat} (h : k < l.length) (e : okR l o k = true) (hn : ∀ m, m < k → okR l o m = false) : nxt l o = some k := by
  unfold nxt
  rw [List.find?_range_eq_some]
  exact ⟨e, List.mem_range.2 h, fun j hj => by rw [hn j hj]; rfl⟩
theorem nxt_none {l : List GPart} {o : List Int} : nxt l o = none ↔ ∀ m, m < l.length → okR l o m = false := by
  unfold nxt
  rw [List.find?_range_eq_none]
  exact ⟨fun h m hm => by have := h m hm; simpa using this, fun h m hm => by rw [h m hm]; rfl⟩
theorem runIt_some {l : List GPart} {j k : Nat} (h : nxt l (runIt l j) = some k) : runIt l (j + 1) = runIt l j ++ [(k : Int)] := by rw [runIt, h]
theorem runIt_none {l : List GPart} {j : Nat} (h : nxt l (runIt l j) = none) : ∀ i, runIt l (j + i) = runIt l j
  | 0 => rfl
  | i + 1 => by
    have ih := runIt_none h i
    rw [← Nat.add_assoc, runIt, ih, h]
theorem okAt_app {R : Int → Bool} {M : Int → List Int → Bool} {o : List Int} {z : Int} {k : Nat} (h : k < o.length) : okAt R M (o ++ [z]) k = okAt R M o k := by
  rw [okAt_at h, okAt_at (by simp; omega), List.getElem_append_left h, List.take_append_of_le_length (by omega)]
theorem okTo_app {R : Int → Bool} {M : Int → List Int → Bool} {o : List Int} {z : Int} : ∀ {k : Nat}, k ≤ o.length → okTo R M (o ++ [z]) k = okTo R M o k
  | 0, _ => rfl
  | k + 1, h => by
    simp only [okTo]
    rw [okTo_app (by omega), okAt_app (by omega)]
theorem okTo_add {l : List GPart} {o : List Int} {k : Nat} (h : okTo (runB l) (metB l) o o.length = true) (e : okR l o k = true) : okTo (runB l) (metB l) (o ++ [(k : Int)]) (o ++ [(k : Int)]).length = true := by
  have hl : (o ++ [(k : Int)]).length = o.length + 1 := by simp
  unfold okR at e
  simp only [Bool.and_eq_true] at e
  rw [hl]
  simp only [okTo]
  rw [okTo_app (Nat.le_refl _), h, okAt_at (by simp)]
  simp only [List.take_left', List.getElem_concat_length, List.getElem_append_right, Nat.le_refl, Nat.sub_self, List.getElem_cons_zero]
  unfold metB
  rw [e.1.1, e.1.2, e.2]
  rfl

def ic_ord_run : IC := (.seq (.reg false [⟨(some 2), none, .mov (.k (.slice none 0 0))⟩]) (.seq (.reg false [⟨(some 5), none, .brow true 3 1 0 false []⟩, ⟨(some 3), none, .mov (.t 5)⟩]) (.block 0 (.loop (.block 1 (.seq (.reg false [⟨(some 4), none, .mov (.k (.int .i64 0))⟩]) (.seq (.block 2 (.loop (.seq (.seq (.reg false [⟨(some 6), none, .mov (.t 4)⟩, ⟨(some 7), none, .mov (.t 0)⟩, ⟨(some 8), none, .len false (.t 7)⟩, ⟨(some 9), none, .bin .lss (.t 6) (.t 8)⟩, ⟨(some 10), none, .mov (.t 9)⟩, ⟨(some 11), (some (10, true)), .mov (.t 3)⟩, ⟨(some 12), (some (10, true)), .mov (.t 4)⟩, ⟨(some 13), (some (10, true)), .call 18 [(.t 11), (.t 12)]⟩, ⟨(some 14), (some (10, true)), .mov (.t 13)⟩, ⟨(some 15), (some (14, false)), .mov (.t 0)⟩, ⟨(some 16), (some (14, false)), .mov (.t 4)⟩, ⟨(some 17), (some (14, false)), .call 19 [(.t 15), (.t 16)]⟩, ⟨(some 18), (some (14, false)), .not (.t 17)⟩, ⟨(some 19), (some (10, true)), .pick (.t 14) (.k (.bool true)) (.t 18)⟩, ⟨(some 20), (some (10, true)), .mov (.t 19)⟩, ⟨(some 21), (some (20, false)), .mov (.t 0)⟩, ⟨(some 22), (some (20, false)), .mov (.t 4)⟩, ⟨(some 23), (some (20, false)), .call 21 [(.t 21), (.t 22)]⟩, ⟨(some 24), (some (20, false)), .mov (.t 3)⟩, ⟨(some 25), (some (20, false)), .call 20 [(.t 23), (.t 24)]⟩, ⟨(some 26), (some (20, false)), .not (.t 25)⟩, ⟨(some 27), (some (10, true)), .pick (.t 20) (.k (.bool true)) (.t 26)⟩, ⟨(some 28), none, .pick (.t 10) (.t 27) (.k (.bool false))⟩]) (.cond (.t 28) .skip (.exit 2))) (.block 3 (.reg false [⟨(some 29), none, .mov (.t 4)⟩, ⟨(some 30), none, .bin .add (.t 29) (.k (.int .i64 1))⟩, ⟨(some 4), none, .mov (.t 30)⟩]))))) (.seq (.seq (.reg false [⟨(some 31), none, .mov (.t 4)⟩, ⟨(some 32), none, .mov (.t 0)⟩, ⟨(some 33), none, .len false (.t 32)⟩, ⟨(some 34), none, .bin .eql (.t 31) (.t 33)⟩]) (.cond (.t 34) (.seq (.reg false [⟨(some 35), none, .mov (.t 3)⟩, ⟨(some 2), none, .mov (.t 35)⟩]) .ret) .skip)) (.reg false [⟨(some 36), none, .mov (.t 3)⟩, ⟨(some 37), none, .mov (.t 4)⟩, ⟨(some 38), none, .brow false 3 1 1 false [(.t 37)]⟩, ⟨(some 39), none, .app 3 1 (.t 36) (.t 38)⟩, ⟨(some 3), none, .mov (.t 39)⟩])))))))))
theorem ic_ord_run_ok : compC Tryz.prog (Tryz.f7.body.getD .skip) = some ic_ord_run := by kernel_rfl
theorem okR_next {l : List GPart} {o : List Int} {k : Nat} (hno : ∀ m, m < k → okR l o m = false) (e : okR l o k = false) : ∀ m, m < k + 1 → okR l o m = false := fun m hm => by
  rcases Nat.lt_or_ge m k with h' | h'
  · exact hno m h'
  · obtain rfl : m = k := by omega
    exact e
theorem okTo_n {l : List GPart} {o : List Int} (h : okTo (runB l) (metB l) o o.length = true) : o.length ≤ l.length := okTo_len (runB_in l) (Nat.le_refl _) h
set_option maxHeartbeats 8000000 in
theorem runOrder_impl_to (l : List GPart) (hw : l.length + D.wts (l.map GPart.toD) ≤ 1048576) : CallsOwn Tryz.prog 7 [.sl (l.map GPart.toD)] ((ordL l).map li) 3 1 := by
  have hn : l.length ≤ 1048576 := by omega
  refine calls_own (fn := Tryz.f7) (t := 2) (by kernel_rfl) (by kernel_rfl) (by kernel_rfl) ic_ord_run_ok ?_
  unfold ic_ord_run
  change AWP _ _ _ (st0 40 _)
  simp only [undef, stS, st0, stN, D.av, D.avN, sl_agg, leaf_agg, li_agg, ls_agg, sl_acs, leaf_acs, li_acs, ls_acs, ln_acs, el_ln, getq_map, GPart.acs_eq, GPart.flat_eq, GPart.agg_eq, GPart.el, List.map_cons, List.map_nil, List.replicate, List.cons_append, List.nil_append, List.length_cons, List.length_nil, Nat.reduceAdd, Nat.reduceSub]
  repeat' (first | (with_reducible first | refine awp_seq ?_ | refine awp_block ?_ | refine awp_skip ?_ | refine awp_exit ?_ | refine awp_ret ?_ | refine athen ?_ | refine thenExit ?_ | refine thenRet ?_ | refine blockNormal ?_ | refine blockExit ?_ | refine blockRet ?_ | refine roundExit ?_ | refine roundRet ?_ | refine roundExitR ?_ | refine roundRetR ?_) | ((with_reducible refine blockPass ?_ ?_); rfl) | ((with_reducible refine awp_condT ?_ ?_); rfl) | ((with_reducible refine awp_condF ?_ ?_); rfl) | ((with_reducible refine awp_reg ?_); intro K hK) | ((with_reducible refine sw_guardT ?_ ?_); rfl) | ((with_reducible refine sw_guardF ?_ ?_); (rfl; try simp only [St.put, undef, pkA, Nat.reduceAdd, Nat.reduceSub, Nat.reduceLeDiff, Nat.reduceEqDiff])) | ((with_reducible refine hK _ ?_); clear hK K) | (with_reducible refine and_split ?_ ?_) | ((with_reducible refine sw_id ?_); simp (disch := first | decide | omega) only [↓pkS, pkW, pkA, undef, capsOf, ex, St.put, St.ev, kav, gdA, opI, rawI, vbin, srcOf, avsD, acsD, AV.toD, AC.toD, AV.nw, AC.nw, AC.one, Value.oneCell', fillA, D.one, D.ones, D.sz, D.szs, Nat.reduceAdd, Nat.reduceSub, Nat.reduceLeDiff, Nat.reduceEqDiff, reduceIte, pkN, ln_acs, el_ln, getq_map, GPart.acs_eq, GPart.flat_eq, GPart.agg_eq, GPart.el]) | (first | (with_reducible rfl) | (with_reducible refine fnok_id ?_; kernel_rfl) | exact el_strs _ | exact el_ints _ | exact el_ln _ | exact el_tk _ _ | exact el_td _ _ _ | omega | (simp; done) | (simp; omega)) | ((with_reducible refine args_id ?_); simp [ArgsOk, ArgOk, argsD, argD, AC.toD, Value.oneCell', sl_flat, leaf_flat, li_flat, ls_flat, sl_agg, leaf_agg, li_agg, ls_agg, mo_t, mo_f, ln_acs, el_ln, getq_map, GPart.acs_eq, GPart.flat_eq, GPart.agg_eq, GPart.el]; done))
  refine awp_loopB (X := Nat × Nat) (fun q => [.k, .d, .d, .v (.c false [.own 0 q.2]), .d, .d, .d, .d, .d, .d, .d, .d, .d, .d, .d, .d, .d, .d, .d, .d, .d, .d, .d, .d, .d, .d, .d, .d, .d, .d, .d, .d, .d, .d, .d, .d, .d, .d, .d, .d]) (fun q => [⟨(runIt l q.1).map li, 3, 1, q.2, true⟩]) (fun q bs => bs) (fun q => (runIt l q.1).length = q.1 ∧ okTo (runB l) (metB l) (runIt l q.1) (runIt l q.1).length = true) (fun q => l.length - q.1) (0, 0) ⟨rfl, rfl⟩ ?_ ?_
  · simp [StLe', FrLe, OwnLe, BoxLe, AV.fits, AC.fits, FB, mask, runIt]
  rintro ⟨j, v⟩ ⟨hj, hok⟩
  simp only at hj hok
  have hjn := okTo_n hok
  have hsome := fun k => runIt_some (l := l) (j := j) (k := k)
  have hnone := runIt_none (l := l) (j := j)
  have hfin : ordL l = runIt l (l.length + 1) := rfl
  obtain ⟨o, ho⟩ : ∃ o, runIt l j = o := ⟨_, rfl⟩
  simp only [FB, mask]
  rw [ho] at hj hok hjn hnone
  simp only [ho] at hsome ⊢
  repeat' (first | (with_reducible first | refine awp_seq ?_ | refine awp_block ?_ | refine awp_skip ?_ | refine awp_exit ?_ | refine awp_ret ?_ | refine athen ?_ | refine thenExit ?_ | refine thenRet ?_ | refine blockNormal ?_ | refine blockExit ?_ | refine blockRet ?_ | refine roundExit ?_ | refine roundRet ?_ | refine roundExitR ?_ | refine roundRetR ?_) | ((with_reducible refine blockPass ?_ ?_); rfl) | ((with_reducible refine awp_condT ?_ ?_); rfl) | ((with_reducible refine awp_condF ?_ ?_); rfl) | ((with_reducible refine awp_reg ?_); intro K hK) | ((with_reducible refine sw_guardT ?_ ?_); rfl) | ((with_reducible refine sw_guardF ?_ ?_); (rfl; try simp only [St.put, undef, pkA, Nat.reduceAdd, Nat.reduceSub, Nat.reduceLeDiff, Nat.reduceEqDiff])) | ((with_reducible refine hK _ ?_); clear hK K) | (with_reducible refine and_split ?_ ?_) | ((with_reducible refine sw_id ?_); simp (disch := first | decide | omega) only [↓pkS, pkW, pkA, undef, capsOf, ex, St.put, St.ev, kav, gdA, opI, rawI, vbin, srcOf, avsD, acsD, AV.toD, AC.toD, AV.nw, AC.nw, AC.one, Value.oneCell', fillA, D.one, D.ones, D.sz, D.szs, Nat.reduceAdd, Nat.reduceSub, Nat.reduceLeDiff, Nat.reduceEqDiff, reduceIte, pkN, ln_acs, el_ln, getq_map, GPart.acs_eq, GPart.flat_eq, GPart.agg_eq, GPart.el]) | (first | (with_reducible rfl) | (with_reducible refine fnok_id ?_; kernel_rfl) | exact el_strs _ | exact el_ints _ | exact el_ln _ | exact el_tk _ _ | exact el_td _ _ _ | omega | (simp; done) | (simp; omega)) | ((with_reducible refine args_id ?_); simp [ArgsOk, ArgOk, argsD, argD, AC.toD, Value.oneCell', sl_flat, leaf_flat, li_flat, ls_flat, sl_agg, leaf_agg, li_agg, ls_agg, mo_t, mo_f, ln_acs, el_ln, getq_map, GPart.acs_eq, GPart.flat_eq, GPart.agg_eq, GPart.el]; done))
  refine awp_loopB (X := Nat) (fun q => [.k, .d, .d, .k, .v (.c false [.raw (.int .i64 (q : Nat))]), .d, .d, .d, .d, .d, .d, .d, .d, .d, .d, .d, .d, .d, .d, .d, .d, .d, .d, .d, .d, .d, .d, .d, .d, .d, .d, .d, .d, .d, .d, .d, .d, .d, .d, .d]) (fun q => [⟨o.map li, 3, 1, v, true⟩]) (fun q bs => bs) (fun q => q ≤ l.length ∧ ∀ m, m < q → okR l o m = false) (fun q => l.length - q) 0 ⟨Nat.zero_le _, fun m hm => by omega⟩ ?_ ?_
  · simp [StLe', FrLe, OwnLe, BoxLe, AV.fits, AC.fits, FB, mask]
  rintro k ⟨hk, hno⟩
  simp only [FB, mask]
  by_cases hlt : k < l.length
  · have hrun := isRunnable_impl_to l (k : Int) hw
    have hnl := needs_len l (k : Int)
    have hne := sl_of_own (needs_impl_to l (k : Int) hw)
    have hha := hasIntZ_to o (k : Int) (by omega)
    have hall := allB_impl_to (needs l (k : Int)) o (by omega) (by omega)
    have hex : okR l o k = (!hasZ o (k : Int) && runB l (k : Int) && allB (needs l (k : Int)) o) := rfl
    obtain ⟨ns, hns⟩ : ∃ ns, needs l (k : Int) = ns := ⟨_, rfl⟩
    rw [hns] at hnl hne hall hex
    cases h1 : hasZ o (k : Int) with
    | true =>
      have hnn := okR_next hno (by rw [hex, h1]; simp)
      repeat' (first | (with_reducible first | refine awp_seq ?_ | refine awp_block ?_ | refine awp_skip ?_ | refine awp_exit ?_ | refine awp_ret ?_ | refine athen ?_ | refine thenExit ?_ | refine thenRet ?_ | refine blockNormal ?_ | refine blockExit ?_ | refine blockRet ?_ | refine roundExit ?_ | refine roundRet ?_ | refine roundExitR ?_ | refine roundRetR ?_) | ((with_reducible refine blockPass ?_ ?_); rfl) | ((with_reducible refine awp_condT ?_ ?_); rfl) | ((with_reducible refine awp_condF ?_ ?_); rfl) | ((with_reducible refine awp_reg ?_); intro K hK) | ((with_reducible refine sw_guardT ?_ ?_); rfl) | ((with_reducible refine sw_guardF ?_ ?_); (rfl; try simp only [St.put, undef, pkA, Nat.reduceAdd, Nat.reduceSub, Nat.reduceLeDiff, Nat.reduceEqDiff])) | ((with_reducible refine hK _ ?_); clear hK K) | (with_reducible refine and_split ?_ ?_) | ((with_reducible refine ct_id ?_); first | (refine callThen hha trivial ?_ ?_) | (refine callThen hrun trivial ?_ ?_) | (refine callThen hne trivial ?_ ?_) | (refine callThen hall trivial ?_ ?_)) | ((with_reducible refine ctd_id ?_); first | (refine callThenD hha trivial ?_ ?_) | (refine callThenD hrun trivial ?_ ?_) | (refine callThenD hne trivial ?_ ?_) | (refine callThenD hall trivial ?_ ?_)) | ((with_reducible refine sw_id ?_); simp (disch := first | decide | omega) only [↓pkS, pkW, pkA, undef, capsOf, ex, St.put, St.ev, kav, gdA, opI, rawI, vbin, srcOf, avsD, acsD, AV.toD, AC.toD, AV.nw, AC.nw, AC.one, Value.oneCell', fillA, D.one, D.ones, D.sz, D.szs, Nat.reduceAdd, Nat.reduceSub, Nat.reduceLeDiff, Nat.reduceEqDiff, reduceIte, pkN, ln_acs, el_ln, getq_map, GPart.acs_eq, GPart.flat_eq, GPart.agg_eq, GPart.el, h1]) | (first | (with_reducible rfl) | (with_reducible refine fnok_id ?_; kernel_rfl) | exact el_strs _ | exact el_ints _ | exact el_ln _ | exact el_tk _ _ | exact el_td _ _ _ | omega | (simp; done) | (simp; omega)) | ((with_reducible refine args_id ?_); simp [ArgsOk, ArgOk, argsD, argD, AC.toD, Value.oneCell', sl_flat, leaf_flat, li_flat, ls_flat, sl_agg, leaf_agg, li_agg, ls_agg, mo_t, mo_f, ln_acs, el_ln, getq_map, GPart.acs_eq, GPart.flat_eq, GPart.agg_eq, GPart.el, h1]; done))
      refine roundB (k + 1) ?_ ⟨by omega, hnn⟩ (show l.length - (k + 1) < l.length - k by omega)
      simp [StLe', FrLe, OwnLe, BoxLe, AV.fits, AC.fits, FB, mask]
    | false =>
      cases h2 : runB l (k : Int) with
      | false =>
        have hnn := okR_next hno (by rw [hex, h2]; simp)
        repeat' (first | (with_reducible first | refine awp_seq ?_ | refine awp_block ?_ | refine awp_skip ?_ | refine awp_exit ?_ | refine awp_ret ?_ | refine athen ?_ | refine thenExit ?_ | refine thenRet ?_ | refine blockNormal ?_ | refine blockExit ?_ | refine blockRet ?_ | refine roundExit ?_ | refine roundRet ?_ | refine roundExitR ?_ | refine roundRetR ?_) | ((with_reducible refine blockPass ?_ ?_); rfl) | ((with_reducible refine awp_condT ?_ ?_); rfl) | ((with_reducible refine awp_condF ?_ ?_); rfl) | ((with_reducible refine awp_reg ?_); intro K hK) | ((with_reducible refine sw_guardT ?_ ?_); rfl) | ((with_reducible refine sw_guardF ?_ ?_); (rfl; try simp only [St.put, undef, pkA, Nat.reduceAdd, Nat.reduceSub, Nat.reduceLeDiff, Nat.reduceEqDiff])) | ((with_reducible refine hK _ ?_); clear hK K) | (with_reducible refine and_split ?_ ?_) | ((with_reducible refine ct_id ?_); first | (refine callThen hha trivial ?_ ?_) | (refine callThen hrun trivial ?_ ?_) | (refine callThen hne trivial ?_ ?_) | (refine callThen hall trivial ?_ ?_)) | ((with_reducible refine ctd_id ?_); first | (refine callThenD hha trivial ?_ ?_) | (refine callThenD hrun trivial ?_ ?_) | (refine callThenD hne trivial ?_ ?_) | (refine callThenD hall trivial ?_ ?_)) | ((with_reducible refine sw_id ?_); simp (disch := first | decide | omega) only [↓pkS, pkW, pkA, undef, capsOf, ex, St.put, St.ev, kav, gdA, opI, rawI, vbin, srcOf, avsD, acsD, AV.toD, AC.toD, AV.nw, AC.nw, AC.one, Value.oneCell', fillA, D.one, D.ones, D.sz, D.szs, Nat.reduceAdd, Nat.reduceSub, Nat.reduceLeDiff, Nat.reduceEqDiff, reduceIte, pkN, ln_acs, el_ln, getq_map, GPart.acs_eq, GPart.flat_eq, GPart.agg_eq, GPart.el, h1, h2]) | (first | (with_reducible rfl) | (with_reducible refine fnok_id ?_; kernel_rfl) | exact el_strs _ | exact el_ints _ | exact el_ln _ | exact el_tk _ _ | exact el_td _ _ _ | omega | (simp; done) | (simp; omega)) | ((with_reducible refine args_id ?_); simp [ArgsOk, ArgOk, argsD, argD, AC.toD, Value.oneCell', sl_flat, leaf_flat, li_flat, ls_flat, sl_agg, leaf_agg, li_agg, ls_agg, mo_t, mo_f, ln_acs, el_ln, getq_map, GPart.acs_eq, GPart.flat_eq, GPart.agg_eq, GPart.el, h1, h2]; done))
        refine roundB (k + 1) ?_ ⟨by omega, hnn⟩ (show l.length - (k + 1) < l.length - k by omega)
        simp [StLe', FrLe, OwnLe, BoxLe, AV.fits, AC.fits, FB, mask]
      | true =>
        cases h3 : allB ns o with
        | false =>
          have hnn := okR_next hno (by rw [hex, h3]; simp)
          repeat' (first | (with_reducible first | refine awp_seq ?_ | refine awp_block ?_ | refine awp_skip ?_ | refine awp_exit ?_ | refine awp_ret ?_ | refine athen ?_ | refine thenExit ?_ | refine thenRet ?_ | refine blockNormal ?_ | refine blockExit ?_ | refine blockRet ?_ | refine roundExit ?_ | refine roundRet ?_ | refine roundExitR ?_ | refine roundRetR ?_) | ((with_reducible refine blockPass ?_ ?_); rfl) | ((with_reducible refine awp_condT ?_ ?_); rfl) | ((with_reducible refine awp_condF ?_ ?_); rfl) | ((with_reducible refine awp_reg ?_); intro K hK) | ((with_reducible refine sw_guardT ?_ ?_); rfl) | ((with_reducible refine sw_guardF ?_ ?_); (rfl; try simp only [St.put, undef, pkA, Nat.reduceAdd, Nat.reduceSub, Nat.reduceLeDiff, Nat.reduceEqDiff])) | ((with_reducible refine hK _ ?_); clear hK K) | (with_reducible refine and_split ?_ ?_) | ((with_reducible refine ct_id ?_); first | (refine callThen hha trivial ?_ ?_) | (refine callThen hrun trivial ?_ ?_) | (refine callThen hne trivial ?_ ?_) | (refine callThen hall trivial ?_ ?_)) | ((with_reducible refine ctd_id ?_); first | (refine callThenD hha trivial ?_ ?_) | (refine callThenD hrun trivial ?_ ?_) | (refine callThenD hne trivial ?_ ?_) | (refine callThenD hall trivial ?_ ?_)) | ((with_reducible refine sw_id ?_); simp (disch := first | decide | omega) only [↓pkS, pkW, pkA, undef, capsOf, ex, St.put, St.ev, kav, gdA, opI, rawI, vbin, srcOf, avsD, acsD, AV.toD, AC.toD, AV.nw, AC.nw, AC.one, Value.oneCell', fillA, D.one, D.ones, D.sz, D.szs, Nat.reduceAdd, Nat.reduceSub, Nat.reduceLeDiff, Nat.reduceEqDiff, reduceIte, pkN, ln_acs, el_ln, getq_map, GPart.acs_eq, GPart.flat_eq, GPart.agg_eq, GPart.el, h1, h2, h3]) | (first | (with_reducible rfl) | (with_reducible refine fnok_id ?_; kernel_rfl) | exact el_strs _ | exact el_ints _ | exact el_ln _ | exact el_tk _ _ | exact el_td _ _ _ | omega | (simp; done) | (simp; omega)) | ((with_reducible refine args_id ?_); simp [ArgsOk, ArgOk, argsD, argD, AC.toD, Value.oneCell', sl_flat, leaf_flat, li_flat, ls_flat, sl_agg, leaf_agg, li_agg, ls_agg, mo_t, mo_f, ln_acs, el_ln, getq_map, GPart.acs_eq, GPart.flat_eq, GPart.agg_eq, GPart.el, h1, h2, h3]; done))
          refine roundB (k + 1) ?_ ⟨by omega, hnn⟩ (show l.length - (k + 1) < l.length - k by omega)
          simp [StLe', FrLe, OwnLe, BoxLe, AV.fits, AC.fits, FB, mask]
        | true =>
          rw [h1, h2, h3] at hex
          have hadd := okTo_add hok hex
          have hs := hsome k (nxt_some hlt hex hno)
          have hjn2 := okTo_n hadd
          rw [List.length_append, List.length_cons, List.length_nil] at hjn2
          repeat' (first | (with_reducible first | refine awp_seq ?_ | refine awp_block ?_ | refine awp_skip ?_ | refine awp_exit ?_ | refine awp_ret ?_ | refine athen ?_ | refine thenExit ?_ | refine thenRet ?_ | refine blockNormal ?_ | refine blockExit ?_ | refine blockRet ?_ | refine roundExit ?_ | refine roundRet ?_ | refine roundExitR ?_ | refine roundRetR ?_) | ((with_reducible refine blockPass ?_ ?_); rfl) | ((with_reducible refine awp_condT ?_ ?_); rfl) | ((with_reducible refine awp_condF ?_ ?_); rfl) | ((with_reducible refine awp_reg ?_); intro K hK) | ((with_reducible refine sw_guardT ?_ ?_); rfl) | ((with_reducible refine sw_guardF ?_ ?_); (rfl; try simp only [St.put, undef, pkA, Nat.reduceAdd, Nat.reduceSub, Nat.reduceLeDiff, Nat.reduceEqDiff])) | ((with_reducible refine hK _ ?_); clear hK K) | (with_reducible refine and_split ?_ ?_) | ((with_reducible refine ct_id ?_); first | (refine callThen hha trivial ?_ ?_) | (refine callThen hrun trivial ?_ ?_) | (refine callThen hne trivial ?_ ?_) | (refine callThen hall trivial ?_ ?_)) | ((with_reducible refine ctd_id ?_); first | (refine callThenD hha trivial ?_ ?_) | (refine callThenD hrun trivial ?_ ?_) | (refine callThenD hne trivial ?_ ?_) | (refine callThenD hall trivial ?_ ?_)) | ((with_reducible refine sw_id ?_); simp (disch := first | decide | omega) only [↓pkS, pkW, pkA, undef, capsOf, ex, St.put, St.ev, kav, gdA, opI, rawI, vbin, srcOf, avsD, acsD, AV.toD, AC.toD, AV.nw, AC.nw, AC.one, Value.oneCell', fillA, D.one, D.ones, D.sz, D.szs, Nat.reduceAdd, Nat.reduceSub, Nat.reduceLeDiff, Nat.reduceEqDiff, reduceIte, pkN, ln_acs, el_ln, getq_map, GPart.acs_eq, GPart.flat_eq, GPart.agg_eq, GPart.el, h1, h2, h3]) | (first | (with_reducible rfl) | (with_reducible refine fnok_id ?_; kernel_rfl) | exact el_strs _ | exact el_ints _ | exact el_ln _ | exact el_tk _ _ | exact el_td _ _ _ | omega | (simp; done) | (simp; omega)) | ((with_reducible refine args_id ?_); simp [ArgsOk, ArgOk, argsD, argD, AC.toD, Value.oneCell', sl_flat, leaf_flat, li_flat, ls_flat, sl_agg, leaf_agg, li_agg, ls_agg, mo_t, mo_f, ln_acs, el_ln, getq_map, GPart.acs_eq, GPart.flat_eq, GPart.agg_eq, GPart.el, h1, h2, h3]; done))
          all_goals first
            | (simp only [List.length_map, List.length_append, List.length_cons, List.length_nil]; omega)
            | (refine roundB (j + 1, v + 1) ?_ ⟨by simp only [hs]; simp; omega, by simp only [hs]; exact hadd⟩ (show l.length - (j + 1) < l.length - j by omega)
               simp [StLe', FrLe, OwnLe, BoxLe, AV.fits, AC.fits, FB, mask, hs, li])
  · obtain rfl : k = l.length := by omega
    have he := hnone (nxt_none.2 hno) (l.length + 1 - j)
    rw [show j + (l.length + 1 - j) = l.length + 1 by omega, ← hfin] at he
    rw [he]
    repeat' (first | (with_reducible first | refine awp_seq ?_ | refine awp_block ?_ | refine awp_skip ?_ | refine awp_exit ?_ | refine awp_ret ?_ | refine athen ?_ | refine thenExit ?_ | refine thenRet ?_ | refine blockNormal ?_ | refine blockExit ?_ | refine blockRet ?_ | refine roundExit ?_ | refine roundRet ?_ | refine roundExitR ?_ | refine roundRetR ?_) | ((with_reducible refine blockPass ?_ ?_); rfl) | ((with_reducible refine awp_condT ?_ ?_); rfl) | ((with_reducible refine awp_condF ?_ ?_); rfl) | ((with_reducible refine awp_reg ?_); intro K hK) | ((with_reducible refine sw_guardT ?_ ?_); rfl) | ((with_reducible refine sw_guardF ?_ ?_); (rfl; try simp only [St.put, undef, pkA, Nat.reduceAdd, Nat.reduceSub, Nat.reduceLeDiff, Nat.reduceEqDiff])) | ((with_reducible refine hK _ ?_); clear hK K) | (with_reducible refine and_split ?_ ?_) | ((with_reducible refine sw_id ?_); simp (disch := first | decide | omega) only [↓pkS, pkW, pkA, undef, capsOf, ex, St.put, St.ev, kav, gdA, opI, rawI, vbin, srcOf, avsD, acsD, AV.toD, AC.toD, AV.nw, AC.nw, AC.one, Value.oneCell', fillA, D.one, D.ones, D.sz, D.szs, Nat.reduceAdd, Nat.reduceSub, Nat.reduceLeDiff, Nat.reduceEqDiff, reduceIte, pkN, ln_acs, el_ln, getq_map, GPart.acs_eq, GPart.flat_eq, GPart.agg_eq, GPart.el]) | (first | (with_reducible rfl) | (with_reducible refine fnok_id ?_; kernel_rfl) | exact el_strs _ | exact el_ints _ | exact el_ln _ | exact el_tk _ _ | exact el_td _ _ _ | omega | (simp; done) | (simp; omega)) | ((with_reducible refine args_id ?_); simp [ArgsOk, ArgOk, argsD, argD, AC.toD, Value.oneCell', sl_flat, leaf_flat, li_flat, ls_flat, sl_agg, leaf_agg, li_agg, ls_agg, mo_t, mo_f, ln_acs, el_ln, getq_map, GPart.acs_eq, GPart.flat_eq, GPart.agg_eq, GPart.el]; done))
    exact endRet ⟨0, _, _, rfl, rfl, rfl, rfl, rfl, rfl, Or.inl rfl⟩
/-- All that can be run stand in the order, with what they need before them. -/
theorem ordL_ok (l : List GPart) : okTo (runB l) (metB l) (ordL l) (ordL l).length = true ∧ nxt l (ordL l) = none := by
  have key : ∀ j, okTo (runB l) (metB l) (runIt l j) (runIt l j).length = true ∧ (nxt l (runIt l j) = none ∨ (runIt l j).length = j) := by
    intro j
    induction j with
    | zero => exact ⟨rfl, Or.inr rfl⟩
    | succ j ih =>
      cases hx : nxt l (runIt l j) with
      | none =>
        have := runIt_none hx 1
        rw [this]
        exact ⟨ih.1, Or.inl hx⟩
      | some k =>
        have hs := runIt_some hx
        have h1 := hx
        unfold nxt at h1
        rw [List.find?_range_eq_some] at h1
        rw [hs]
        refine ⟨okTo_add ih.1 h1.1, Or.inr ?_⟩
        rcases ih.2 with h | h
        · rw [hx] at h; cases h
        · simp [h]
  obtain ⟨h1, h2⟩ := key (l.length + 1)
  refine ⟨h1, ?_⟩
  rcases h2 with h | h
  · exact h
  · have := okTo_n h1
    omega
theorem ordL_all (l : List GPart) : ∀ (m k : Nat), mu l k ≤ m → runB l (k : Int) = true → hasZ (ordL l) (k : Int) = true := by
  intro m
  induction m with
  | zero => 
    intro k hm h
    have hn : ∀ u ∈ nd l k, hasZ (ordL l) (u : Int) = true := fun u hu => absurd (mu_lt hu) (by omega)
    have h1 := nxt_none.1 (ordL_ok l).2 k (by have := runB_in l _ h; omega)
    unfold okR at h1
    have h2 : allB (needs l (k : Int)) (ordL l) = true := List.all_eq_true.2 hn
    rw [h, h2] at h1
    simpa using h1
  | succ m ih =>
    intro k hm h
    have hn : ∀ u ∈ nd l k, hasZ (ordL l) (u : Int) = true := fun u hu => ih u (by have := mu_lt hu; omega) (nd_run hu)
    have h1 := nxt_none.1 (ordL_ok l).2 k (by have := runB_in l _ h; omega)
    unfold okR at h1
    have h2 : allB (needs l (k : Int)) (ordL l) = true := List.all_eq_true.2 hn
    rw [h, h2] at h1
    simpa using h1
theorem ordL_at (l : List GPart) {j : Nat} (h : j < (ordL l).length) : ∃ k : Nat, (ordL l)[j] = (k : Int) ∧ runB l (k : Int) = true ∧ ¬ (k : Int) ∈ (ordL l).take j ∧ ∀ u ∈ nd l k, (u : Int) ∈ (ordL l).take j := by
  have h1 := okTo_mono (k := j + 1) h (ordL_ok l).1
  simp only [okTo, Bool.and_eq_true] at h1
  have h2 := h1.2
  rw [okAt_at h] at h2
  simp only [Bool.and_eq_true, Bool.not_eq_true'] at h2
  obtain ⟨h0, hlt⟩ := runB_in l _ h2.1.1
  refine ⟨(ordL l)[j].toNat, by omega, ?_, ?_, ?_⟩
  · rw [Int.toNat_of_nonneg h0]; exact h2.1.1
  · rw [Int.toNat_of_nonneg h0]
    intro hm
    rw [hasZ_iff.2 hm] at h2
    simp at h2
  · intro u hu
    unfold nd at hu
    rw [Int.toNat_of_nonneg h0] at hu
    exact hasZ_iff.1 (List.all_eq_true.1 h2.2 u hu)
end Go.Proofs.YtnfamcepojpkjaaGreat
