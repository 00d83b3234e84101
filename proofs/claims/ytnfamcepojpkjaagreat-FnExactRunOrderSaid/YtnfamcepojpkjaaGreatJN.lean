/-
  Texts joined: OrdP OrdS.
-/
import Derived.Test.YtnfamcepojpkjaaGreatJK
import Derived.Test.YtnfamcepojpkjaaGreatJH
namespace Go.Proofs.YtnfamcepojpkjaaGreat
open Go.RowKit
set_option linter.unusedSimpArgs false
set_option linter.unusedVariables false
def tblTo (l : List GPart) (k : Nat) : List D := (List.range k).map fun i => .sl ((du l i).map ln)
theorem tblTo_succ (l : List GPart) (k : Nat) : tblTo l (k + 1) = tblTo l k ++ [.sl ((du l k).map ln)] := by simp [tblTo, List.range_succ]
theorem tblTo_len (l : List GPart) (k : Nat) : (tblTo l k).length = k := by simp [tblTo]
theorem tblTo_el (l : List GPart) (k : Nat) : El 1 (tblTo l k) := fun d h => by
  obtain ⟨x, _, rfl⟩ := List.mem_map.1 h
  exact ⟨trivial, rfl⟩
theorem tblTo_at (l : List GPart) {k n : Nat} (h : k < n) : (tblTo l n)[k]? = some (.sl ((du l k).map ln)) := by
  unfold tblTo
  rw [List.getElem?_map, List.getElem?_range h]
  rfl
theorem tblTo_g (l : List GPart) {k n : Nat} (h : k < (tblTo l n).length) : (tblTo l n)[k] = .sl ((du l k).map ln) := by simp [tblTo]
def cycD (b : Bool) : D := .leaf (.bool b)
noncomputable def cycTo (l : List GPart) (i n : Nat) : List D := (List.range n).map fun k : Nat => cycD (decide (k < i) && onC l (k : Int))
theorem cycTo_len (l : List GPart) (i n : Nat) : (cycTo l i n).length = n := by simp [cycTo]
theorem cycTo_el (l : List GPart) (i n : Nat) : El 1 (cycTo l i n) := fun d h => by
  obtain ⟨x, _, rfl⟩ := List.mem_map.1 h
  exact ⟨rfl, rfl⟩
theorem mapF_zero (g : Nat → Bool) (n : Nat) : List.replicate n (D.leaf (.bool false)) = (List.range n).map fun k => cycD (decide (k < 0) && g k) := by
  refine List.ext_getElem (by simp) fun k h1 h2 => ?_
  simp [cycD]
theorem mapF_set (g : Nat → Bool) {i n : Nat} (h : i < n) : ((List.range n).map fun k => cycD (decide (k < i) && g k)).set i (cycD (g i)) = (List.range n).map fun k => cycD (decide (k < i + 1) && g k) := by
  refine List.ext_getElem (by simp) fun k h1 h2 => ?_
  simp only [List.getElem_set, List.getElem_map, List.getElem_range]
  by_cases e : i = k
  · subst e
    simp [cycD]
  · rw [if_neg e]
    congr 2
    rw [decide_eq_decide]
    omega
theorem mapF_all (g : Nat → Bool) (n : Nat) : ((List.range n).map fun k => cycD (decide (k < n) && g k)) = (List.range n).map fun k => cycD (g k) := by
  refine List.map_congr_left fun k hk => ?_
  rw [List.mem_range] at hk
  simp [hk]
noncomputable def runTo (l : List GPart) (i n : Nat) : List D := (List.range n).map fun k : Nat => cycD (decide (k < i) && runB l (k : Int))
theorem runTo_len (l : List GPart) (i n : Nat) : (runTo l i n).length = n := by simp [runTo]
theorem runTo_el (l : List GPart) (i n : Nat) : El 1 (runTo l i n) := fun d h => by
  obtain ⟨x, _, rfl⟩ := List.mem_map.1 h
  exact ⟨rfl, rfl⟩
noncomputable def cycL (l : List GPart) : List D := (List.range l.length).map fun k : Nat => cycD (onC l (k : Int))
noncomputable def runL (l : List GPart) : List D := (List.range l.length).map fun k : Nat => cycD (runB l (k : Int))
theorem cycL_len (l : List GPart) : (cycL l).length = l.length := by simp [cycL]
theorem runL_len (l : List GPart) : (runL l).length = l.length := by simp [runL]
theorem runL_el (l : List GPart) : El 1 (runL l) := fun d h => by
  obtain ⟨x, _, rfl⟩ := List.mem_map.1 h
  exact ⟨rfl, rfl⟩
theorem cycL_el (l : List GPart) : El 1 (cycL l) := fun d h => by
  obtain ⟨x, _, rfl⟩ := List.mem_map.1 h
  exact ⟨rfl, rfl⟩
theorem cycL_at (l : List GPart) {k : Nat} (h : k < l.length) : (cycL l)[k]? = some (.leaf (.bool (onC l (k : Int)))) := by
  unfold cycL
  rw [List.getElem?_map, List.getElem?_range h]
  rfl
theorem runL_at (l : List GPart) {k : Nat} (h : k < l.length) : (runL l)[k]? = some (.leaf (.bool (runB l (k : Int)))) := by
  unfold runL
  rw [List.getElem?_map, List.getElem?_range h]
  rfl
theorem cycL_g (l : List GPart) {k : Nat} (h : k < (cycL l).length) : (cycL l)[k] = .leaf (.bool (onC l (k : Int))) := by simp [cycL, cycD]
theorem runL_g (l : List GPart) {k : Nat} (h : k < (runL l).length) : (runL l)[k] = .leaf (.bool (runB l (k : Int))) := by simp [runL, cycD]
theorem cycTo_zero (l : List GPart) (n : Nat) : List.replicate n (D.leaf (.bool false)) = cycTo l 0 n := mapF_zero _ n
theorem cycTo_set (l : List GPart) {i n : Nat} (h : i < n) : (cycTo l i n).set i (.leaf (.bool (onC l (i : Int)))) = cycTo l (i + 1) n := mapF_set (fun k => onC l (k : Int)) h
theorem cycTo_all (l : List GPart) : cycTo l l.length l.length = cycL l := mapF_all (fun k => onC l (k : Int)) _
theorem runTo_zero (l : List GPart) (n : Nat) : List.replicate n (D.leaf (.bool false)) = runTo l 0 n := mapF_zero _ n
theorem runTo_set (l : List GPart) {i n : Nat} (h : i < n) : (runTo l i n).set i (.leaf (.bool (runB l (i : Int)))) = runTo l (i + 1) n := mapF_set (fun k => runB l (k : Int)) h
theorem runTo_all (l : List GPart) : runTo l l.length l.length = runL l := mapF_all (fun k => runB l (k : Int)) _
/-- What was met, closed: it has z exactly if z is reached. -/
theorem met_onC {l : List GPart} {i : Nat} {o : List Nat} (hlt : ∀ x ∈ o, x < l.length) (h : setL l.length o = cl l.length (nrI l false) (i : Int)) : hasI o (i : Int) = onC l (i : Int) := by
  unfold onC
  rw [← h, hasI_nat, hasI_nat, Bool.eq_iff_iff, List.contains_iff_mem, List.contains_iff_mem, mem_setL]
  exact ⟨fun hm => ⟨hlt _ hm, hm⟩, fun hm => hm.2⟩
/-! ### How many can be run -/
noncomputable def cntR (l : List GPart) (k : Nat) : Nat := sumF (fun i => runB l (i : Int)) (fun _ => 1) k
theorem cntR_succ (l : List GPart) (k : Nat) : cntR l (k + 1) = cntR l k + (if runB l (k : Int) then 1 else 0) := by
  unfold cntR
  simp only [sumF]
  try omega
theorem cntR_le (l : List GPart) (k : Nat) : cntR l k ≤ k := sumF_cnt _ k
theorem cnt_split (l : List GPart) : ∀ (o : List Int), o.Nodup → (∀ z ∈ o, runB l z = true) → sumF (fun x => runB l (x : Int) && !hasZ o (x : Int)) (fun _ => 1) l.length + o.length = cntR l l.length
  | [], _, _ => by
    unfold cntR
    simp [hasZ]
  | z :: o, hn, hr => by
    rw [List.nodup_cons] at hn
    have ih := cnt_split l o hn.2 (fun x hx => hr x (by simp [hx]))
    have hz := hr z (by simp)
    obtain ⟨h0, h1⟩ := runB_in l z hz
    obtain ⟨k, rfl⟩ : ∃ k : Nat, z = (k : Int) := ⟨z.toNat, by omega⟩
    simp only [Int.toNat_natCast] at h1
    have h2 : hasZ o (k : Int) = false := by
      rw [Bool.eq_false_iff]
      intro h
      exact hn.1 (hasZ_iff.1 h)
    have h3 := sumF_one (p := fun x : Nat => runB l (x : Int) && !hasZ o (x : Int)) (q := fun x : Nat => runB l (x : Int) && !hasZ ((k : Int) :: o) (x : Int)) (g := fun _ => 1) (k := k) (by simp [hz, h2]) (by simp [hasZ]) (fun x hx => by
      have : ((k : Int) == (x : Int)) = false := by simp; omega
      simp [hasZ, this]) h1
    simp only [List.length_cons]
    omega
theorem okTo_nd {l : List GPart} : ∀ {o : List Int} {k : Nat}, k ≤ o.length → okTo (runB l) (metB l) o k = true → (o.take k).Nodup ∧ ∀ z ∈ o.take k, runB l z = true
  | o, 0, _, _ => by simp
  | o, k + 1, hk, h => by
    simp only [okTo, Bool.and_eq_true] at h
    obtain ⟨h1, h2⟩ := h
    rw [okAt_at (by omega)] at h2
    simp only [Bool.and_eq_true, Bool.not_eq_true'] at h2
    obtain ⟨i1, i2⟩ := okTo_nd (by omega) h1
    rw [List.take_succ_eq_append_getElem (by omega : k < o.length)]
    refine ⟨?_, fun z hz => ?_⟩
    · rw [List.nodup_append]
      refine ⟨i1, by simp, fun a ha b hb e => ?_⟩
      rw [List.mem_singleton] at hb
      subst hb
      subst e
      rw [hasZ_iff.2 ha] at h2
      simp at h2
    · rcases List.mem_append.1 hz with h | h
      · exact i2 z h
      · rw [List.mem_singleton] at h
        subst h
        exact h2.1.1
/-- In the loop: nothing more fits, or one more is wanted. -/
theorem run_more {l : List GPart} {j : Nat} (h : (runIt l j).length < cntR l l.length) : nxt l (runIt l j) ≠ none := by
  intro hn
  have he := runIt_none hn (l.length + 1 - j)
  by_cases hj : j ≤ l.length + 1
  · rw [show j + (l.length + 1 - j) = l.length + 1 by omega] at he
    have ho : ordL l = runIt l j := he
    have hok := (ordL_ok l).1
    rw [ho] at hok
    obtain ⟨h1, h2⟩ := okTo_nd (Nat.le_refl _) hok
    rw [List.take_length] at h1 h2
    have h3 := cnt_split l _ h1 h2
    have h4 : sumF (fun x => runB l (x : Int) && !hasZ (runIt l j) (x : Int)) (fun _ => 1) l.length = 0 := by
      have : ∀ n, sumF (fun x => runB l (x : Int) && !hasZ (runIt l j) (x : Int)) (fun _ => 1) n = 0 := fun n => by
        induction n with
        | zero => rfl
        | succ n ih =>
          simp only [sumF, ih]
          cases hr : runB l (n : Int) with
          | false => simp
          | true =>
            have := ordL_all l (mu l n) n (Nat.le_refl _) hr
            rw [ho] at this
            simp [this]
      exact this _
    omega
  · have h5 : runIt l (l.length + 1) = runIt l j := by
      have hk : ∀ m, runIt l (l.length + 1 + m) = runIt l (l.length + 1) := fun m => runIt_none (ordL_ok l).2 m
      have := hk (j - (l.length + 1))
      rw [show l.length + 1 + (j - (l.length + 1)) = j by omega] at this
      exact this.symm
    have hok := (ordL_ok l).1
    have ho : ordL l = runIt l j := h5
    rw [ho] at hok
    obtain ⟨h1, h2⟩ := okTo_nd (Nat.le_refl _) hok
    rw [List.take_length] at h1 h2
    have h3 := cnt_split l _ h1 h2
    have h4 : sumF (fun x => runB l (x : Int) && !hasZ (runIt l j) (x : Int)) (fun _ => 1) l.length = 0 := by
      have : ∀ n, sumF (fun x => runB l (x : Int) && !hasZ (runIt l j) (x : Int)) (fun _ => 1) n = 0 := fun n => by
        induction n with
        | zero => rfl
        | succ n ih =>
          simp only [sumF, ih]
          cases hr : runB l (n : Int) with
          | false => simp
          | true =>
            have := ordL_all l (mu l n) n (Nat.le_refl _) hr
            rw [ho] at this
            simp [this]
      exact this _
    omega
/-- Behind the loop: as many as can be run are all of them. -/
theorem run_done {l : List GPart} {j : Nat} (hok : okTo (runB l) (metB l) (runIt l j) (runIt l j).length = true) (hj : (runIt l j).length = j) (h : ¬ j < cntR l l.length) : runIt l j = ordL l := by
  have hjn := okTo_n hok
  obtain ⟨h1, h2⟩ := okTo_nd (Nat.le_refl _) hok
  rw [List.take_length] at h1 h2
  have h3 := cnt_split l _ h1 h2
  have h4 : sumF (fun x => runB l (x : Int) && !hasZ (runIt l j) (x : Int)) (fun _ => 1) l.length = 0 := by omega
  have hn : nxt l (runIt l j) = none := nxt_none.2 fun m hm => by
    unfold okR
    have : ∀ n, m < n → sumF (fun x => runB l (x : Int) && !hasZ (runIt l j) (x : Int)) (fun _ => 1) n = 0 → (runB l (m : Int) && !hasZ (runIt l j) (m : Int)) = false := by
      intro n
      induction n with
      | zero => intro hm; omega
      | succ n ih =>
        intro hm hs
        simp only [sumF] at hs
        rcases Nat.lt_or_ge m n with h' | h'
        · exact ih h' (by omega)
        · obtain rfl : m = n := by omega
          cases hb : (runB l (m : Int) && !hasZ (runIt l j) (m : Int)) with
          | false => rfl
          | true => rw [hb] at hs; simp at hs
    have h5 := this _ hm h4
    cases hr : runB l (m : Int) with
    | false => simp
    | true => rw [hr] at h5; simp at h5; simp [h5]
  have he := runIt_none hn (l.length + 1 - j)
  rw [show j + (l.length + 1 - j) = l.length + 1 by omega] at he
  exact he.symm
/-! ### Readiness -/
theorem rdy_eq (l : List GPart) (o : List Int) (k : Nat) : allB (needs l (k : Int)) o = (du l k).all fun u => !(runB l (u : Int) && !hasZ o (u : Int)) := by
  unfold allB needs
  rw [duI_nat, List.all_filter]
  congr 1
  funext u
  cases runB l (u : Int) <;> simp
end Go.Proofs.YtnfamcepojpkjaaGreat

namespace Go.Proofs.YtnfamcepojpkjaaGreat
open Go.RowKit
set_option linter.unusedSimpArgs false
set_option linter.unusedVariables false
theorem hsz_one (l : List Nat) : El 1 [D.sl (l.map ln)] := fun d h => by
  simp at h
  subst h
  exact ⟨trivial, rfl⟩
theorem hsz_one' (l : List Nat) : (D.sl (l.map ln)).sz = 1 := rfl
def ic_tbl : IC := (.seq (.reg false [⟨(some 2), none, .mov (.k (.slice none 0 0))⟩]) (.seq (.reg false [⟨(some 5), none, .brow true 24 1 0 false []⟩, ⟨(some 3), none, .mov (.t 5)⟩]) (.seq (.seq (.reg false [⟨(some 4), none, .mov (.k (.int .i64 0))⟩]) (.block 0 (.loop (.seq (.seq (.reg false [⟨(some 6), none, .mov (.t 4)⟩, ⟨(some 7), none, .mov (.t 0)⟩, ⟨(some 8), none, .len false (.t 7)⟩, ⟨(some 9), none, .bin .lss (.t 6) (.t 8)⟩]) (.cond (.t 9) .skip (.exit 0))) (.seq (.block 1 (.reg false [⟨(some 12), none, .mov (.t 3)⟩, ⟨(some 13), none, .mov (.t 0)⟩, ⟨(some 14), none, .mov (.t 4)⟩, ⟨(some 15), none, .call 30 [(.t 13), (.t 14)]⟩, ⟨(some 16), none, .brow false 24 1 1 false [(.t 15)]⟩, ⟨(some 17), none, .app 24 1 (.t 12) (.t 16)⟩, ⟨(some 3), none, .mov (.t 17)⟩])) (.reg false [⟨(some 10), none, .mov (.t 4)⟩, ⟨(some 11), none, .bin .add (.t 10) (.k (.int .i64 1))⟩, ⟨(some 4), none, .mov (.t 11)⟩])))))) (.seq (.reg false [⟨(some 18), none, .mov (.t 3)⟩, ⟨(some 2), none, .mov (.t 18)⟩]) .ret))))
theorem ic_tbl_ok : compC Tryz.prog (Tryz.f14.body.getD .skip) = some ic_tbl := by kernel_rfl
set_option maxHeartbeats 8000000 in
theorem l23Table_to (l : List GPart) (hw : l.length + D.wts (l.map GPart.toD) ≤ 1048576) : CallsOwn Tryz.prog 14 [.sl (l.map GPart.toD)] (tblTo l l.length) 24 1 := by
  have hn : l.length ≤ 1048576 := by omega
  refine calls_own (fn := Tryz.f14) (t := 2) (by kernel_rfl) (by kernel_rfl) (by kernel_rfl) ic_tbl_ok ?_
  unfold ic_tbl
  change AWP _ _ _ (st0 19 _)
  simp only [undef, stS, st0, stN, D.av, D.avN, sl_agg, leaf_agg, li_agg, ls_agg, sl_acs, leaf_acs, li_acs, ls_acs, ln_acs, el_ln, getq_map, GPart.acs_eq, GPart.flat_eq, GPart.agg_eq, GPart.el, List.map_cons, List.map_nil, List.replicate, List.cons_append, List.nil_append, List.length_cons, List.length_nil, Nat.reduceAdd, Nat.reduceSub]
  repeat' (first | (with_reducible first | refine awp_seq ?_ | refine awp_block ?_ | refine awp_skip ?_ | refine awp_exit ?_ | refine awp_ret ?_ | refine athen ?_ | refine thenExit ?_ | refine thenRet ?_ | refine blockNormal ?_ | refine blockExit ?_ | refine blockRet ?_ | refine roundExit ?_ | refine roundRet ?_ | refine roundExitR ?_ | refine roundRetR ?_) | ((with_reducible refine blockPass ?_ ?_); rfl) | ((with_reducible refine awp_condT ?_ ?_); rfl) | ((with_reducible refine awp_condF ?_ ?_); rfl) | (with_reducible (refine awp_condS rfl ?_ ?_); all_goals (intro hb; have hb' := hb; (try simp only [pkC] at hb'); first | (exfalso; omega) | skip)) | ((with_reducible refine awp_reg ?_); intro K hK) | ((with_reducible refine hK _ ?_); clear hK K) | (with_reducible refine and_split ?_ ?_) | ((with_reducible refine sw_id ?_); simp (disch := first | decide | omega) only [↓pkS, pkW, pkA, undef, capsOf, ex, St.put, St.ev, kav, gdA, opI, rawI, vbin, srcOf, avsD, acsD, AV.toD, AC.toD, AV.nw, AC.nw, AC.one, Value.oneCell', fillA, D.one, D.ones, D.sz, D.szs, Nat.reduceAdd, Nat.reduceSub, Nat.reduceLeDiff, Nat.reduceEqDiff, reduceIte, pkN, pkF]) | (first | (with_reducible rfl) | (with_reducible refine fnok_id ?_; kernel_rfl) | exact el_strs _ | exact el_ints _ | exact el_ln _ | exact el_tk _ _ | exact el_td _ _ _ | omega | (simp; done) | (simp; omega)) | ((with_reducible refine args_id ?_); simp [ArgsOk, ArgOk, argsD, argD, AC.toD, Value.oneCell', sl_flat, leaf_flat, li_flat, ls_flat, sl_agg, leaf_agg, li_agg, ls_agg, mo_t, mo_f, pkF]; first | done | rfl))
  refine awp_loopB (X := Nat × Nat) (fun q => [.k, .d, .d, .v (.c false [.own 0 q.2]), .v (.c false [.raw (.int .i64 (q.1 : Nat))]), .d, .d, .d, .d, .d, .d, .d, .d, .d, .d, .d, .d, .d, .d]) (fun q => [⟨tblTo l q.1, 24, 1, q.2, true⟩]) (fun q bs => bs) (fun q => q.1 ≤ l.length) (fun q => l.length - q.1) (0, 0) (Nat.zero_le _) ?_ ?_
  · simp [StLe', FrLe, OwnLe, BoxLe, AV.fits, AC.fits, FB, mask, tblTo]
  rintro ⟨k, v⟩ hk
  have hk' : k ≤ l.length := hk
  clear hk
  simp only [FB, mask]
  by_cases hlk : k < l.length
  · have hd := sl_of_own (directUses_spec_to l (k : Int) hw)
    rw [duI_nat] at hd
    have htl := tblTo_len l k
    repeat' (first | (with_reducible first | refine awp_seq ?_ | refine awp_block ?_ | refine awp_skip ?_ | refine awp_exit ?_ | refine awp_ret ?_ | refine athen ?_ | refine thenExit ?_ | refine thenRet ?_ | refine blockNormal ?_ | refine blockExit ?_ | refine blockRet ?_ | refine roundExit ?_ | refine roundRet ?_ | refine roundExitR ?_ | refine roundRetR ?_) | ((with_reducible refine blockPass ?_ ?_); rfl) | ((with_reducible refine awp_condT ?_ ?_); rfl) | ((with_reducible refine awp_condF ?_ ?_); rfl) | (with_reducible (refine awp_condS rfl ?_ ?_); all_goals (intro hb; have hb' := hb; (try simp only [pkC] at hb'); first | (exfalso; omega) | skip)) | ((with_reducible refine awp_reg ?_); intro K hK) | ((with_reducible refine hK _ ?_); clear hK K) | (with_reducible refine and_split ?_ ?_) | ((with_reducible refine ct_id ?_); first | (refine callThen hd trivial ?_ ?_)) | ((with_reducible refine ctd_id ?_); first | (refine callThenD hd trivial ?_ ?_)) | ((with_reducible refine sw_id ?_); simp (disch := first | decide | omega) only [↓pkS, pkW, pkA, undef, capsOf, ex, St.put, St.ev, kav, gdA, opI, rawI, vbin, srcOf, avsD, acsD, AV.toD, AC.toD, AV.nw, AC.nw, AC.one, Value.oneCell', fillA, D.one, D.ones, D.sz, D.szs, Nat.reduceAdd, Nat.reduceSub, Nat.reduceLeDiff, Nat.reduceEqDiff, reduceIte, pkN, pkF, htl, hsz_one']) | (first | (with_reducible rfl) | (with_reducible refine fnok_id ?_; kernel_rfl) | exact el_strs _ | exact el_ints _ | exact el_ln _ | exact el_tk _ _ | exact el_td _ _ _ | omega | (simp; done) | (simp; omega)) | ((with_reducible refine args_id ?_); simp [ArgsOk, ArgOk, argsD, argD, AC.toD, Value.oneCell', sl_flat, leaf_flat, li_flat, ls_flat, sl_agg, leaf_agg, li_agg, ls_agg, mo_t, mo_f, pkF, htl, hsz_one']; first | done | rfl))
    all_goals first
      | exact hsz_one _
      | (simp only [tblTo_len, List.length_cons, List.length_nil]; omega)
      | (refine roundB (k + 1, v + 1) ?_ (show k + 1 ≤ l.length by omega) (show l.length - (k + 1) < l.length - k by omega)
         simp [StLe', FrLe, OwnLe, BoxLe, AV.fits, AC.fits, FB, mask, tblTo_succ])
  · obtain rfl : k = l.length := by omega
    repeat' (first | (with_reducible first | refine awp_seq ?_ | refine awp_block ?_ | refine awp_skip ?_ | refine awp_exit ?_ | refine awp_ret ?_ | refine athen ?_ | refine thenExit ?_ | refine thenRet ?_ | refine blockNormal ?_ | refine blockExit ?_ | refine blockRet ?_ | refine roundExit ?_ | refine roundRet ?_ | refine roundExitR ?_ | refine roundRetR ?_) | ((with_reducible refine blockPass ?_ ?_); rfl) | ((with_reducible refine awp_condT ?_ ?_); rfl) | ((with_reducible refine awp_condF ?_ ?_); rfl) | (with_reducible (refine awp_condS rfl ?_ ?_); all_goals (intro hb; have hb' := hb; (try simp only [pkC] at hb'); first | (exfalso; omega) | skip)) | ((with_reducible refine awp_reg ?_); intro K hK) | ((with_reducible refine hK _ ?_); clear hK K) | (with_reducible refine and_split ?_ ?_) | ((with_reducible refine sw_id ?_); simp (disch := first | decide | omega) only [↓pkS, pkW, pkA, undef, capsOf, ex, St.put, St.ev, kav, gdA, opI, rawI, vbin, srcOf, avsD, acsD, AV.toD, AC.toD, AV.nw, AC.nw, AC.one, Value.oneCell', fillA, D.one, D.ones, D.sz, D.szs, Nat.reduceAdd, Nat.reduceSub, Nat.reduceLeDiff, Nat.reduceEqDiff, reduceIte, pkN, pkF]) | (first | (with_reducible rfl) | (with_reducible refine fnok_id ?_; kernel_rfl) | exact el_strs _ | exact el_ints _ | exact el_ln _ | exact el_tk _ _ | exact el_td _ _ _ | omega | (simp; done) | (simp; omega)) | ((with_reducible refine args_id ?_); simp [ArgsOk, ArgOk, argsD, argD, AC.toD, Value.oneCell', sl_flat, leaf_flat, li_flat, ls_flat, sl_agg, leaf_agg, li_agg, ls_agg, mo_t, mo_f, pkF]; first | done | rfl))
    exact endRet ⟨0, _, _, rfl, rfl, rfl, rfl, rfl, rfl, Or.inl rfl⟩
def ic_cyc24 : IC := (.seq (.reg false [⟨(some 2), none, .mov (.k (.slice none 0 0))⟩]) (.seq (.reg false [⟨(some 9), none, .mov (.t 0)⟩, ⟨(some 10), none, .len false (.t 9)⟩, ⟨(some 11), none, .mk 4 (.bool false) (.t 10)⟩, ⟨(some 3), none, .mov (.t 11)⟩]) (.seq (.seq (.reg false [⟨(some 4), none, .mov (.k (.int .i64 0))⟩]) (.block 0 (.loop (.seq (.seq (.reg false [⟨(some 12), none, .mov (.t 4)⟩, ⟨(some 13), none, .mov (.t 0)⟩, ⟨(some 14), none, .len false (.t 13)⟩, ⟨(some 15), none, .bin .lss (.t 12) (.t 14)⟩]) (.cond (.t 15) .skip (.exit 0))) (.seq (.block 1 (.seq (.reg false [⟨(some 18), none, .brow true 3 1 0 false []⟩, ⟨(some 19), none, .mov (.t 0)⟩, ⟨(some 20), none, .mov (.t 4)⟩, ⟨(some 21), none, .iad 1 (.t 19) (.t 20)⟩, ⟨(some 22), none, .load 1 false (.t 21)⟩, ⟨(some 23), none, .app 3 1 (.t 18) (.t 22)⟩, ⟨(some 5), none, .mov (.t 23)⟩]) (.seq (.seq (.reg false [⟨(some 6), none, .mov (.k (.int .i64 0))⟩]) (.block 2 (.loop (.seq (.seq (.reg false [⟨(some 24), none, .mov (.t 6)⟩, ⟨(some 25), none, .mov (.t 5)⟩, ⟨(some 26), none, .len false (.t 25)⟩, ⟨(some 27), none, .bin .lss (.t 24) (.t 26)⟩]) (.cond (.t 27) .skip (.exit 2))) (.seq (.block 3 (.seq (.reg false [⟨(some 30), none, .mov (.t 0)⟩, ⟨(some 31), none, .mov (.t 5)⟩, ⟨(some 32), none, .mov (.t 6)⟩, ⟨(some 33), none, .iad 1 (.t 31) (.t 32)⟩, ⟨(some 34), none, .load 1 false (.t 33)⟩, ⟨(some 35), none, .iad 1 (.t 30) (.t 34)⟩, ⟨(some 36), none, .load 1 false (.t 35)⟩, ⟨(some 7), none, .mov (.t 36)⟩]) (.seq (.reg false [⟨(some 8), none, .mov (.k (.int .i64 0))⟩]) (.block 4 (.loop (.seq (.seq (.reg false [⟨(some 37), none, .mov (.t 8)⟩, ⟨(some 38), none, .mov (.t 7)⟩, ⟨(some 39), none, .len false (.t 38)⟩, ⟨(some 40), none, .bin .lss (.t 37) (.t 39)⟩]) (.cond (.t 40) .skip (.exit 4))) (.seq (.block 5 (.seq (.reg false [⟨(some 43), none, .mov (.t 5)⟩, ⟨(some 44), none, .mov (.t 7)⟩, ⟨(some 45), none, .mov (.t 8)⟩, ⟨(some 46), none, .iad 1 (.t 44) (.t 45)⟩, ⟨(some 47), none, .load 1 false (.t 46)⟩, ⟨(some 48), none, .call 32 [(.t 43), (.t 47)]⟩, ⟨(some 49), none, .not (.t 48)⟩]) (.cond (.t 49) (.reg false [⟨(some 50), none, .mov (.t 5)⟩, ⟨(some 51), none, .mov (.t 7)⟩, ⟨(some 52), none, .mov (.t 8)⟩, ⟨(some 53), none, .iad 1 (.t 51) (.t 52)⟩, ⟨(some 54), none, .load 1 false (.t 53)⟩, ⟨(some 55), none, .brow false 3 1 1 false [(.t 54)]⟩, ⟨(some 56), none, .app 3 1 (.t 50) (.t 55)⟩, ⟨(some 5), none, .mov (.t 56)⟩]) .skip))) (.reg false [⟨(some 41), none, .mov (.t 8)⟩, ⟨(some 42), none, .bin .add (.t 41) (.k (.int .i64 1))⟩, ⟨(some 8), none, .mov (.t 42)⟩])))))))) (.reg false [⟨(some 28), none, .mov (.t 6)⟩, ⟨(some 29), none, .bin .add (.t 28) (.k (.int .i64 1))⟩, ⟨(some 6), none, .mov (.t 29)⟩])))))) (.reg false [⟨(some 57), none, .mov (.t 3)⟩, ⟨(some 58), none, .mov (.t 4)⟩, ⟨(some 59), none, .mov (.t 5)⟩, ⟨(some 60), none, .mov (.t 4)⟩, ⟨(some 61), none, .call 32 [(.t 59), (.t 60)]⟩, ⟨(some 62), none, .iad 1 (.t 57) (.t 58)⟩, ⟨none, none, .store 1 (.t 62) (.t 61)⟩])))) (.reg false [⟨(some 16), none, .mov (.t 4)⟩, ⟨(some 17), none, .bin .add (.t 16) (.k (.int .i64 1))⟩, ⟨(some 4), none, .mov (.t 17)⟩])))))) (.seq (.reg false [⟨(some 63), none, .mov (.t 3)⟩, ⟨(some 2), none, .mov (.t 63)⟩]) .ret))))
theorem ic_cyc24_ok : compC Tryz.prog (Tryz.f16.body.getD .skip) = some ic_cyc24 := by kernel_rfl
set_option maxHeartbeats 16000000 in
theorem l24Cyclic_to (l : List GPart) (hw : l.length + D.wts (l.map GPart.toD) ≤ 1048576) : CallsOwn Tryz.prog 16 [.sl (tblTo l l.length)] (cycL l) 4 1 := by
  have hn : l.length ≤ 1048576 := by omega
  have htl := tblTo_len l l.length
  have hlt := nrI_lt l false
  refine calls_own (fn := Tryz.f16) (t := 2) (by kernel_rfl) (by kernel_rfl) (by kernel_rfl) ic_cyc24_ok ?_
  unfold ic_cyc24
  change AWP _ _ _ (st0 64 _)
  simp only [undef, stS, st0, stN, D.av, D.avN, sl_agg, leaf_agg, li_agg, ls_agg, sl_acs, leaf_acs, li_acs, ls_acs, ln_acs, el_ln, getq_map, GPart.acs_eq, GPart.flat_eq, GPart.agg_eq, GPart.el, List.map_cons, List.map_nil, List.replicate, List.cons_append, List.nil_append, List.length_cons, List.length_nil, Nat.reduceAdd, Nat.reduceSub]
  repeat' (first | (with_reducible first | refine awp_seq ?_ | refine awp_block ?_ | refine awp_skip ?_ | refine awp_exit ?_ | refine awp_ret ?_ | refine athen ?_ | refine thenExit ?_ | refine thenRet ?_ | refine blockNormal ?_ | refine blockExit ?_ | refine blockRet ?_ | refine roundExit ?_ | refine roundRet ?_ | refine roundExitR ?_ | refine roundRetR ?_) | ((with_reducible refine blockPass ?_ ?_); rfl) | ((with_reducible refine awp_condT ?_ ?_); rfl) | ((with_reducible refine awp_condF ?_ ?_); rfl) | (with_reducible (refine awp_condS rfl ?_ ?_); all_goals (intro hb; have hb' := hb; (try simp only [pkC] at hb'); first | (exfalso; omega) | skip)) | ((with_reducible refine awp_reg ?_); intro K hK) | ((with_reducible refine hK _ ?_); clear hK K) | (with_reducible refine and_split ?_ ?_) | ((with_reducible refine sw_id ?_); simp (disch := first | decide | omega) only [↓pkS, pkW, pkA, undef, capsOf, ex, St.put, St.ev, kav, gdA, opI, rawI, vbin, srcOf, avsD, acsD, AV.toD, AC.toD, AV.nw, AC.nw, AC.one, Value.oneCell', fillA, D.one, D.ones, D.sz, D.szs, Nat.reduceAdd, Nat.reduceSub, Nat.reduceLeDiff, Nat.reduceEqDiff, reduceIte, pkN, pkF, htl]) | (first | (with_reducible rfl) | (with_reducible refine fnok_id ?_; kernel_rfl) | exact el_strs _ | exact el_ints _ | exact el_ln _ | exact el_tk _ _ | exact el_td _ _ _ | omega | (simp; done) | (simp; omega)) | ((with_reducible refine args_id ?_); simp [ArgsOk, ArgOk, argsD, argD, AC.toD, Value.oneCell', sl_flat, leaf_flat, li_flat, ls_flat, sl_agg, leaf_agg, li_agg, ls_agg, mo_t, mo_f, pkF, htl]; first | done | rfl))
  all_goals first
    | (simp only [htl]; omega)
    | skip
  refine awp_loopB (X := Nat) (fun q => [.k, .d, .d, .k, .v (.c false [.raw (.int .i64 (q : Nat))]), .d, .d, .d, .d, .d, .d, .d, .d, .d, .d, .d, .d, .d, .d, .d, .d, .d, .d, .d, .d, .d, .d, .d, .d, .d, .d, .d, .d, .d, .d, .d, .d, .d, .d, .d, .d, .d, .d, .d, .d, .d, .d, .d, .d, .d, .d, .d, .d, .d, .d, .d, .d, .d, .d, .d, .d, .d, .d, .d]) (fun q => [⟨cycTo l q l.length, 4, 1, 0, true⟩]) (fun q bs => bs) (fun q => q ≤ l.length) (fun q => l.length - q) 0 (Nat.zero_le _) ?_ ?_
  · simp [StLe', FrLe, OwnLe, BoxLe, AV.fits, AC.fits, FB, mask, cycTo_zero l l.length]
  rintro i hi
  have hi' : i ≤ l.length := hi
  clear hi
  simp only [FB, mask]
  by_cases hli : i < l.length
  · have hti := tblTo_at l hli
    have hdl := du_len l i
    have hcl := cycTo_len l i l.length
    repeat' (first | (with_reducible first | refine awp_seq ?_ | refine awp_block ?_ | refine awp_skip ?_ | refine awp_exit ?_ | refine awp_ret ?_ | refine athen ?_ | refine thenExit ?_ | refine thenRet ?_ | refine blockNormal ?_ | refine blockExit ?_ | refine blockRet ?_ | refine roundExit ?_ | refine roundRet ?_ | refine roundExitR ?_ | refine roundRetR ?_) | ((with_reducible refine blockPass ?_ ?_); rfl) | ((with_reducible refine awp_condT ?_ ?_); rfl) | ((with_reducible refine awp_condF ?_ ?_); rfl) | (with_reducible (refine awp_condS rfl ?_ ?_); all_goals (intro hb; have hb' := hb; (try simp only [pkC] at hb'); first | (exfalso; omega) | skip)) | ((with_reducible refine awp_reg ?_); intro K hK) | ((with_reducible refine hK _ ?_); clear hK K) | (with_reducible refine and_split ?_ ?_) | ((with_reducible refine sw_id ?_); simp (disch := first | decide | omega) only [↓pkS, pkW, pkA, undef, capsOf, ex, St.put, St.ev, kav, gdA, opI, rawI, vbin, srcOf, avsD, acsD, AV.toD, AC.toD, AV.nw, AC.nw, AC.one, Value.oneCell', fillA, D.one, D.ones, D.sz, D.szs, Nat.reduceAdd, Nat.reduceSub, Nat.reduceLeDiff, Nat.reduceEqDiff, reduceIte, pkN, pkF, hti, htl, tblTo_g]) | (first | (with_reducible rfl) | (with_reducible refine fnok_id ?_; kernel_rfl) | exact el_strs _ | exact el_ints _ | exact el_ln _ | exact el_tk _ _ | exact el_td _ _ _ | omega | (simp; done) | (simp; omega)) | ((with_reducible refine args_id ?_); simp [ArgsOk, ArgOk, argsD, argD, AC.toD, Value.oneCell', sl_flat, leaf_flat, li_flat, ls_flat, sl_agg, leaf_agg, li_agg, ls_agg, mo_t, mo_f, pkF, hti, htl, tblTo_g]; first | done | rfl))
    all_goals first
      | (simp only [List.length_map, List.length_append, List.length_cons, List.length_nil]; omega)
      | exact tblTo_el _ _
      | skip
    refine awp_loopB (X := Nat × List Nat × Nat) (fun q => [.k, .d, .d, .k, .k, .v (.c false [.own 1 q.2.2]), .v (.c false [.raw (.int .i64 (q.1 : Nat))]), .d, .d, .d, .d, .d, .d, .d, .d, .d, .d, .d, .d, .d, .d, .d, .d, .d, .d, .d, .d, .d, .d, .d, .d, .d, .d, .d, .d, .d, .d, .d, .d, .d, .d, .d, .d, .d, .d, .d, .d, .d, .d, .d, .d, .d, .d, .d, .d, .d, .d, .d, .d, .d, .d, .d, .d, .d]) (fun q => [⟨cycTo l i l.length, 4, 1, 0, true⟩, ⟨q.2.1.map ln, 3, 1, q.2.2, false⟩]) (fun q bs => bs) (fun q => AllInv l.length (nrI l false) (i : Int) q.1 q.2.1) (fun q => l.length - q.1) (0, du l i, 1) (by have := AllInv.start hlt (z := (i : Int)) (nrI_sorted l false (i : Int)); rwa [nrI_f, duI_nat] at this) ?_ ?_
    · simp [StLe', FrLe, OwnLe, BoxLe, AV.fits, AC.fits, FB, mask]
    rintro ⟨k, o, v⟩ hI0
    have hI : AllInv l.length (nrI l false) (i : Int) k o := hI0
    clear hI0
    have hol := nodup_len hI.nd hI.lt
    have hkl := hI.le
    simp only [FB, mask]
    by_cases hlk : k < o.length
    · have hok := hI.lt o[k] (List.getElem_mem hlk)
      have htk := tblTo_at l hok
      have hml := du_len l o[k]
      have hJ0 := MoreInv.start hI hlk
      repeat' (first | (with_reducible first | refine awp_seq ?_ | refine awp_block ?_ | refine awp_skip ?_ | refine awp_exit ?_ | refine awp_ret ?_ | refine athen ?_ | refine thenExit ?_ | refine thenRet ?_ | refine blockNormal ?_ | refine blockExit ?_ | refine blockRet ?_ | refine roundExit ?_ | refine roundRet ?_ | refine roundExitR ?_ | refine roundRetR ?_) | ((with_reducible refine blockPass ?_ ?_); rfl) | ((with_reducible refine awp_condT ?_ ?_); rfl) | ((with_reducible refine awp_condF ?_ ?_); rfl) | (with_reducible (refine awp_condS rfl ?_ ?_); all_goals (intro hb; have hb' := hb; (try simp only [pkC] at hb'); first | (exfalso; omega) | skip)) | ((with_reducible refine awp_reg ?_); intro K hK) | ((with_reducible refine hK _ ?_); clear hK K) | (with_reducible refine and_split ?_ ?_) | ((with_reducible refine sw_id ?_); simp (disch := first | decide | omega) only [↓pkS, pkW, pkA, undef, capsOf, ex, St.put, St.ev, kav, gdA, opI, rawI, vbin, srcOf, avsD, acsD, AV.toD, AC.toD, AV.nw, AC.nw, AC.one, Value.oneCell', fillA, D.one, D.ones, D.sz, D.szs, Nat.reduceAdd, Nat.reduceSub, Nat.reduceLeDiff, Nat.reduceEqDiff, reduceIte, pkN, pkF, htk, htl, tblTo_g]) | (first | (with_reducible rfl) | (with_reducible refine fnok_id ?_; kernel_rfl) | exact el_strs _ | exact el_ints _ | exact el_ln _ | exact el_tk _ _ | exact el_td _ _ _ | omega | (simp; done) | (simp; omega)) | ((with_reducible refine args_id ?_); simp [ArgsOk, ArgOk, argsD, argD, AC.toD, Value.oneCell', sl_flat, leaf_flat, li_flat, ls_flat, sl_agg, leaf_agg, li_agg, ls_agg, mo_t, mo_f, pkF, htk, htl, tblTo_g]; first | done | rfl))
      all_goals first
        | exact tblTo_el _ _
        | skip
      refine awp_loopB (X := Nat × List Nat × Nat) (fun q => [.k, .d, .d, .k, .k, .v (.c false [.own 1 q.2.2]), .k, .k, .v (.c false [.raw (.int .i64 (q.1 : Nat))]), .d, .d, .d, .d, .d, .d, .d, .d, .d, .d, .d, .d, .d, .d, .d, .d, .d, .d, .d, .d, .d, .d, .d, .d, .d, .d, .d, .d, .d, .d, .d, .d, .d, .d, .d, .d, .d, .d, .d, .d, .d, .d, .d, .d, .d, .d, .d, .d, .d, .d, .d, .d, .d, .d, .d]) (fun q => [⟨cycTo l i l.length, 4, 1, 0, true⟩, ⟨q.2.1.map ln, 3, 1, q.2.2, false⟩]) (fun q bs => bs) (fun q => MoreInv l.length (nrI l false) (i : Int) k o[k] q.1 q.2.1) (fun q => (du l o[k]).length - q.1) (0, o, v) hJ0 ?_ ?_
      · simp [StLe', FrLe, OwnLe, BoxLe, AV.fits, AC.fits, FB, mask]
      rintro ⟨j, u, v2⟩ hJ1
      have hJ : MoreInv l.length (nrI l false) (i : Int) k o[k] j u := hJ1
      clear hJ1
      have hul := nodup_len hJ.nd hJ.lt
      have hjl := hJ.jle
      have hfe : nrI l false ((o[k] : Nat) : Int) = du l o[k] := by rw [nrI_f, duI_nat]
      rw [hfe] at hjl
      simp only [FB, mask]
      by_cases hlj : j < (du l o[k]).length
      · have hlj' : j < (nrI l false ((o[k] : Nat) : Int)).length := by rw [hfe]; exact hlj
        have hge : (nrI l false ((o[k] : Nat) : Int))[j] = (du l o[k])[j] := List.getElem_of_eq hfe hlj'
        cases hh : hasI u (((du l o[k])[j] : Nat) : Int) with
        | true =>
          have hc : u.contains (nrI l false ((o[k] : Nat) : Int))[j] = true := by rw [hge, ← hasI_nat]; exact hh
          have hsk := hJ.skip hlj' hc
          repeat' (first | (with_reducible first | refine awp_seq ?_ | refine awp_block ?_ | refine awp_skip ?_ | refine awp_exit ?_ | refine awp_ret ?_ | refine athen ?_ | refine thenExit ?_ | refine thenRet ?_ | refine blockNormal ?_ | refine blockExit ?_ | refine blockRet ?_ | refine roundExit ?_ | refine roundRet ?_ | refine roundExitR ?_ | refine roundRetR ?_) | ((with_reducible refine blockPass ?_ ?_); rfl) | ((with_reducible refine awp_condT ?_ ?_); rfl) | ((with_reducible refine awp_condF ?_ ?_); rfl) | (with_reducible (refine awp_condS rfl ?_ ?_); all_goals (intro hb; have hb' := hb; (try simp only [pkC] at hb'); first | (exfalso; omega) | skip)) | ((with_reducible refine awp_reg ?_); intro K hK) | ((with_reducible refine hK _ ?_); clear hK K) | (with_reducible refine and_split ?_ ?_) | ((with_reducible refine ct_id ?_); first | (refine callThen (l1HasInt_to u (((du l o[k])[j] : Nat) : Int) (by omega)) trivial ?_ ?_)) | ((with_reducible refine ctd_id ?_); first | (refine callThenD (l1HasInt_to u (((du l o[k])[j] : Nat) : Int) (by omega)) trivial ?_ ?_)) | ((with_reducible refine sw_id ?_); simp (disch := first | decide | omega) only [↓pkS, pkW, pkA, undef, capsOf, ex, St.put, St.ev, kav, gdA, opI, rawI, vbin, srcOf, avsD, acsD, AV.toD, AC.toD, AV.nw, AC.nw, AC.one, Value.oneCell', fillA, D.one, D.ones, D.sz, D.szs, Nat.reduceAdd, Nat.reduceSub, Nat.reduceLeDiff, Nat.reduceEqDiff, reduceIte, pkN, pkF, hh]) | (first | (with_reducible rfl) | (with_reducible refine fnok_id ?_; kernel_rfl) | exact el_strs _ | exact el_ints _ | exact el_ln _ | exact el_tk _ _ | exact el_td _ _ _ | omega | (simp; done) | (simp; omega)) | ((with_reducible refine args_id ?_); simp [ArgsOk, ArgOk, argsD, argD, AC.toD, Value.oneCell', sl_flat, leaf_flat, li_flat, ls_flat, sl_agg, leaf_agg, li_agg, ls_agg, mo_t, mo_f, pkF, hh]; first | done | rfl))
          refine roundB (j + 1, u, v2) ?_ hsk (show (du l o[k]).length - (j + 1) < (du l o[k]).length - j by omega)
          simp [StLe', FrLe, OwnLe, BoxLe, AV.fits, AC.fits, FB, mask]
        | false =>
          have hc : u.contains (nrI l false ((o[k] : Nat) : Int))[j] = false := by rw [hge, ← hasI_nat]; exact hh
          have hpt := hJ.put hlt hlj' hc
          rw [hge] at hpt
          repeat' (first | (with_reducible first | refine awp_seq ?_ | refine awp_block ?_ | refine awp_skip ?_ | refine awp_exit ?_ | refine awp_ret ?_ | refine athen ?_ | refine thenExit ?_ | refine thenRet ?_ | refine blockNormal ?_ | refine blockExit ?_ | refine blockRet ?_ | refine roundExit ?_ | refine roundRet ?_ | refine roundExitR ?_ | refine roundRetR ?_) | ((with_reducible refine blockPass ?_ ?_); rfl) | ((with_reducible refine awp_condT ?_ ?_); rfl) | ((with_reducible refine awp_condF ?_ ?_); rfl) | (with_reducible (refine awp_condS rfl ?_ ?_); all_goals (intro hb; have hb' := hb; (try simp only [pkC] at hb'); first | (exfalso; omega) | skip)) | ((with_reducible refine awp_reg ?_); intro K hK) | ((with_reducible refine hK _ ?_); clear hK K) | (with_reducible refine and_split ?_ ?_) | ((with_reducible refine ct_id ?_); first | (refine callThen (l1HasInt_to u (((du l o[k])[j] : Nat) : Int) (by omega)) trivial ?_ ?_)) | ((with_reducible refine ctd_id ?_); first | (refine callThenD (l1HasInt_to u (((du l o[k])[j] : Nat) : Int) (by omega)) trivial ?_ ?_)) | ((with_reducible refine sw_id ?_); simp (disch := first | decide | omega) only [↓pkS, pkW, pkA, undef, capsOf, ex, St.put, St.ev, kav, gdA, opI, rawI, vbin, srcOf, avsD, acsD, AV.toD, AC.toD, AV.nw, AC.nw, AC.one, Value.oneCell', fillA, D.one, D.ones, D.sz, D.szs, Nat.reduceAdd, Nat.reduceSub, Nat.reduceLeDiff, Nat.reduceEqDiff, reduceIte, pkN, pkF, hh]) | (first | (with_reducible rfl) | (with_reducible refine fnok_id ?_; kernel_rfl) | exact el_strs _ | exact el_ints _ | exact el_ln _ | exact el_tk _ _ | exact el_td _ _ _ | omega | (simp; done) | (simp; omega)) | ((with_reducible refine args_id ?_); simp [ArgsOk, ArgOk, argsD, argD, AC.toD, Value.oneCell', sl_flat, leaf_flat, li_flat, ls_flat, sl_agg, leaf_agg, li_agg, ls_agg, mo_t, mo_f, pkF, hh]; first | done | rfl))
          all_goals first
            | (simp only [List.length_map, List.length_append, List.length_cons, List.length_nil]; omega)
            | (refine roundB (j + 1, u ++ [(du l o[k])[j]], v2 + 1) ?_ hpt (show (du l o[k]).length - (j + 1) < (du l o[k]).length - j by omega)
               simp [StLe', FrLe, OwnLe, BoxLe, AV.fits, AC.fits, FB, mask, ln, li]
               try rfl)
      · obtain rfl : j = (du l o[k]).length := by omega
        have hF : AllInv l.length (nrI l false) (i : Int) (k + 1) u := by
          have h9 : MoreInv l.length (nrI l false) (i : Int) k o[k] (nrI l false ((o[k] : Nat) : Int)).length u := by rw [hfe]; exact hJ
          exact h9.fin
        repeat' (first | (with_reducible first | refine awp_seq ?_ | refine awp_block ?_ | refine awp_skip ?_ | refine awp_exit ?_ | refine awp_ret ?_ | refine athen ?_ | refine thenExit ?_ | refine thenRet ?_ | refine blockNormal ?_ | refine blockExit ?_ | refine blockRet ?_ | refine roundExit ?_ | refine roundRet ?_ | refine roundExitR ?_ | refine roundRetR ?_) | ((with_reducible refine blockPass ?_ ?_); rfl) | ((with_reducible refine awp_condT ?_ ?_); rfl) | ((with_reducible refine awp_condF ?_ ?_); rfl) | (with_reducible (refine awp_condS rfl ?_ ?_); all_goals (intro hb; have hb' := hb; (try simp only [pkC] at hb'); first | (exfalso; omega) | skip)) | ((with_reducible refine awp_reg ?_); intro K hK) | ((with_reducible refine hK _ ?_); clear hK K) | (with_reducible refine and_split ?_ ?_) | ((with_reducible refine sw_id ?_); simp (disch := first | decide | omega) only [↓pkS, pkW, pkA, undef, capsOf, ex, St.put, St.ev, kav, gdA, opI, rawI, vbin, srcOf, avsD, acsD, AV.toD, AC.toD, AV.nw, AC.nw, AC.one, Value.oneCell', fillA, D.one, D.ones, D.sz, D.szs, Nat.reduceAdd, Nat.reduceSub, Nat.reduceLeDiff, Nat.reduceEqDiff, reduceIte, pkN, pkF, htl]) | (first | (with_reducible rfl) | (with_reducible refine fnok_id ?_; kernel_rfl) | exact el_strs _ | exact el_ints _ | exact el_ln _ | exact el_tk _ _ | exact el_td _ _ _ | omega | (simp; done) | (simp; omega)) | ((with_reducible refine args_id ?_); simp [ArgsOk, ArgOk, argsD, argD, AC.toD, Value.oneCell', sl_flat, leaf_flat, li_flat, ls_flat, sl_agg, leaf_agg, li_agg, ls_agg, mo_t, mo_f, pkF, htl]; first | done | rfl))
        refine roundB (k + 1, u, v2) ?_ hF (show l.length - (k + 1) < l.length - k by omega)
        simp [StLe', FrLe, OwnLe, BoxLe, AV.fits, AC.fits, FB, mask]
    · obtain rfl : k = o.length := by omega
      have hfin := met_onC hI.lt hI.fin
      have hcs := cycTo_set l hli
      repeat' (first | (with_reducible first | refine awp_seq ?_ | refine awp_block ?_ | refine awp_skip ?_ | refine awp_exit ?_ | refine awp_ret ?_ | refine athen ?_ | refine thenExit ?_ | refine thenRet ?_ | refine blockNormal ?_ | refine blockExit ?_ | refine blockRet ?_ | refine roundExit ?_ | refine roundRet ?_ | refine roundExitR ?_ | refine roundRetR ?_) | ((with_reducible refine blockPass ?_ ?_); rfl) | ((with_reducible refine awp_condT ?_ ?_); rfl) | ((with_reducible refine awp_condF ?_ ?_); rfl) | (with_reducible (refine awp_condS rfl ?_ ?_); all_goals (intro hb; have hb' := hb; (try simp only [pkC] at hb'); first | (exfalso; omega) | skip)) | ((with_reducible refine awp_reg ?_); intro K hK) | ((with_reducible refine hK _ ?_); clear hK K) | (with_reducible refine and_split ?_ ?_) | ((with_reducible refine ct_id ?_); first | (refine callThen (l1HasInt_to o (i : Int) (by omega)) trivial ?_ ?_)) | ((with_reducible refine ctd_id ?_); first | (refine callThenD (l1HasInt_to o (i : Int) (by omega)) trivial ?_ ?_)) | ((with_reducible refine sw_id ?_); simp (disch := first | decide | omega) only [↓pkS, pkW, pkA, undef, capsOf, ex, St.put, St.ev, kav, gdA, opI, rawI, vbin, srcOf, avsD, acsD, AV.toD, AC.toD, AV.nw, AC.nw, AC.one, Value.oneCell', fillA, D.one, D.ones, D.sz, D.szs, Nat.reduceAdd, Nat.reduceSub, Nat.reduceLeDiff, Nat.reduceEqDiff, reduceIte, pkN, pkF, hfin, hcs, cycTo_len]) | (first | (with_reducible rfl) | (with_reducible refine fnok_id ?_; kernel_rfl) | exact el_strs _ | exact el_ints _ | exact el_ln _ | exact el_tk _ _ | exact el_td _ _ _ | omega | (simp; done) | (simp; omega)) | ((with_reducible refine args_id ?_); simp [ArgsOk, ArgOk, argsD, argD, AC.toD, Value.oneCell', sl_flat, leaf_flat, li_flat, ls_flat, sl_agg, leaf_agg, li_agg, ls_agg, mo_t, mo_f, pkF, hfin, hcs, cycTo_len]; first | done | rfl))
      all_goals first
        | (simp only [cycTo_len]; omega)
        | (refine roundB (i + 1) ?_ (show i + 1 ≤ l.length by omega) (show l.length - (i + 1) < l.length - i by omega)
           simp [StLe', FrLe, OwnLe, BoxLe, AV.fits, AC.fits, FB, mask])
  · obtain rfl : i = l.length := by omega
    rw [cycTo_all]
    repeat' (first | (with_reducible first | refine awp_seq ?_ | refine awp_block ?_ | refine awp_skip ?_ | refine awp_exit ?_ | refine awp_ret ?_ | refine athen ?_ | refine thenExit ?_ | refine thenRet ?_ | refine blockNormal ?_ | refine blockExit ?_ | refine blockRet ?_ | refine roundExit ?_ | refine roundRet ?_ | refine roundExitR ?_ | refine roundRetR ?_) | ((with_reducible refine blockPass ?_ ?_); rfl) | ((with_reducible refine awp_condT ?_ ?_); rfl) | ((with_reducible refine awp_condF ?_ ?_); rfl) | (with_reducible (refine awp_condS rfl ?_ ?_); all_goals (intro hb; have hb' := hb; (try simp only [pkC] at hb'); first | (exfalso; omega) | skip)) | ((with_reducible refine awp_reg ?_); intro K hK) | ((with_reducible refine hK _ ?_); clear hK K) | (with_reducible refine and_split ?_ ?_) | ((with_reducible refine sw_id ?_); simp (disch := first | decide | omega) only [↓pkS, pkW, pkA, undef, capsOf, ex, St.put, St.ev, kav, gdA, opI, rawI, vbin, srcOf, avsD, acsD, AV.toD, AC.toD, AV.nw, AC.nw, AC.one, Value.oneCell', fillA, D.one, D.ones, D.sz, D.szs, Nat.reduceAdd, Nat.reduceSub, Nat.reduceLeDiff, Nat.reduceEqDiff, reduceIte, pkN, pkF, htl]) | (first | (with_reducible rfl) | (with_reducible refine fnok_id ?_; kernel_rfl) | exact el_strs _ | exact el_ints _ | exact el_ln _ | exact el_tk _ _ | exact el_td _ _ _ | omega | (simp; done) | (simp; omega)) | ((with_reducible refine args_id ?_); simp [ArgsOk, ArgOk, argsD, argD, AC.toD, Value.oneCell', sl_flat, leaf_flat, li_flat, ls_flat, sl_agg, leaf_agg, li_agg, ls_agg, mo_t, mo_f, pkF, htl]; first | done | rfl))
    exact endRet ⟨0, _, _, rfl, rfl, rfl, rfl, rfl, rfl, Or.inl rfl⟩
noncomputable def rdy (l : List GPart) (o : List Int) (us : List Nat) : Bool := us.all fun u => !(runB l (u : Int) && !hasZ o (u : Int))
theorem rdy_take (l : List GPart) (o : List Int) (us : List Nat) {k : Nat} (h : k < us.length) : rdy l o (us.take (k + 1)) = (rdy l o (us.take k) && !(runB l (us[k] : Int) && !hasZ o (us[k] : Int))) := by
  unfold rdy
  rw [List.take_succ_eq_append_getElem h, List.all_append]
  simp
theorem rdy_at {l : List GPart} {o : List Int} {us : List Nat} {k : Nat} (h : k < us.length) (e1 : runB l (us[k] : Int) = true) (e2 : hasZ o (us[k] : Int) = false) : rdy l o us = false := by
  rw [Bool.eq_false_iff]
  intro hr
  have := List.all_eq_true.1 hr us[k] (List.getElem_mem h)
  rw [e1, e2] at this
  cases this
def ic_rdy : IC := (.seq (.reg false [⟨(some 6), none, .mov (.k (.bool false))⟩]) (.seq (.seq (.reg false [⟨(some 7), none, .mov (.k (.int .i64 0))⟩]) (.block 0 (.loop (.seq (.seq (.reg false [⟨(some 8), none, .mov (.t 7)⟩, ⟨(some 9), none, .mov (.t 1)⟩, ⟨(some 10), none, .len false (.t 9)⟩, ⟨(some 11), none, .bin .lss (.t 8) (.t 10)⟩]) (.cond (.t 11) .skip (.exit 0))) (.seq (.block 1 (.seq (.reg false [⟨(some 14), none, .mov (.t 2)⟩, ⟨(some 15), none, .mov (.t 1)⟩, ⟨(some 16), none, .mov (.t 7)⟩, ⟨(some 17), none, .iad 1 (.t 15) (.t 16)⟩, ⟨(some 18), none, .load 1 false (.t 17)⟩, ⟨(some 19), none, .iad 1 (.t 14) (.t 18)⟩, ⟨(some 20), none, .load 1 false (.t 19)⟩, ⟨(some 21), none, .mov (.t 20)⟩, ⟨(some 22), (some (21, true)), .mov (.t 0)⟩, ⟨(some 23), (some (21, true)), .mov (.t 1)⟩, ⟨(some 24), (some (21, true)), .mov (.t 7)⟩, ⟨(some 25), (some (21, true)), .iad 1 (.t 23) (.t 24)⟩, ⟨(some 26), (some (21, true)), .load 1 false (.t 25)⟩, ⟨(some 27), (some (21, true)), .call 32 [(.t 22), (.t 26)]⟩, ⟨(some 28), (some (21, true)), .not (.t 27)⟩, ⟨(some 29), none, .pick (.t 21) (.t 28) (.k (.bool false))⟩]) (.cond (.t 29) (.seq (.reg false [⟨(some 6), none, .mov (.k (.bool false))⟩]) .ret) .skip))) (.reg false [⟨(some 12), none, .mov (.t 7)⟩, ⟨(some 13), none, .bin .add (.t 12) (.k (.int .i64 1))⟩, ⟨(some 7), none, .mov (.t 13)⟩])))))) (.seq (.reg false [⟨(some 6), none, .mov (.k (.bool true))⟩]) .ret)))
theorem ic_rdy_ok : compC Tryz.prog (Tryz.f33.body.getD .skip) = some ic_rdy := by kernel_rfl
set_option maxHeartbeats 8000000 in
theorem ready_to (l : List GPart) (us : List Nat) (o : List Int) (hu : ∀ u ∈ us, u < l.length) (h1 : us.length ≤ 4194304) (h2 : o.length ≤ 4194304) : CallsTo Tryz.prog 33 [.sl (o.map li), .sl (us.map ln), .sl (runL l)] (.c false [.raw (.bool (rdy l o us))]) := by
  have hrl := runL_len l
  refine calls_one (fn := Tryz.f33) (t := 6) (by kernel_rfl) (by kernel_rfl) (by kernel_rfl) ic_rdy_ok ?_
  unfold ic_rdy
  change AWP _ _ _ (st0 30 _)
  simp only [undef, stS, st0, stN, D.av, D.avN, sl_agg, leaf_agg, li_agg, ls_agg, sl_acs, leaf_acs, li_acs, ls_acs, ln_acs, el_ln, getq_map, GPart.acs_eq, GPart.flat_eq, GPart.agg_eq, GPart.el, List.map_cons, List.map_nil, List.replicate, List.cons_append, List.nil_append, List.length_cons, List.length_nil, Nat.reduceAdd, Nat.reduceSub]
  repeat' (first | (with_reducible first | refine awp_seq ?_ | refine awp_block ?_ | refine awp_skip ?_ | refine awp_exit ?_ | refine awp_ret ?_ | refine athen ?_ | refine thenExit ?_ | refine thenRet ?_ | refine blockNormal ?_ | refine blockExit ?_ | refine blockRet ?_ | refine roundExit ?_ | refine roundRet ?_ | refine roundExitR ?_ | refine roundRetR ?_) | ((with_reducible refine blockPass ?_ ?_); rfl) | ((with_reducible refine awp_condT ?_ ?_); rfl) | ((with_reducible refine awp_condF ?_ ?_); rfl) | (with_reducible (refine awp_condS rfl ?_ ?_); all_goals (intro hb; have hb' := hb; (try simp only [pkC] at hb'); first | (exfalso; omega) | skip)) | ((with_reducible refine awp_reg ?_); intro K hK) | ((with_reducible refine sw_guardT ?_ ?_); rfl) | ((with_reducible refine sw_guardF ?_ ?_); (rfl; try simp only [St.put, undef, pkA, Nat.reduceAdd, Nat.reduceSub, Nat.reduceLeDiff, Nat.reduceEqDiff])) | (with_reducible (refine sw_guardS rfl ?_ ?_); all_goals (intro hb; have hb' := hb; (try simp only [pkC] at hb'); first | (exfalso; omega) | skip)) | ((with_reducible refine hK _ ?_); clear hK K) | (with_reducible refine and_split ?_ ?_) | ((with_reducible refine sw_id ?_); simp (disch := first | decide | omega) only [↓pkS, pkW, pkA, undef, capsOf, ex, St.put, St.ev, kav, gdA, opI, rawI, vbin, srcOf, avsD, acsD, AV.toD, AC.toD, AV.nw, AC.nw, AC.one, Value.oneCell', fillA, D.one, D.ones, D.sz, D.szs, Nat.reduceAdd, Nat.reduceSub, Nat.reduceLeDiff, Nat.reduceEqDiff, reduceIte, pkN, pkF]) | (first | (with_reducible rfl) | (with_reducible refine fnok_id ?_; kernel_rfl) | exact el_strs _ | exact el_ints _ | exact el_ln _ | exact el_tk _ _ | exact el_td _ _ _ | omega | (simp; done) | (simp; omega)) | ((with_reducible refine args_id ?_); simp [ArgsOk, ArgOk, argsD, argD, AC.toD, Value.oneCell', sl_flat, leaf_flat, li_flat, ls_flat, sl_agg, leaf_agg, li_agg, ls_agg, mo_t, mo_f, pkF]; first | done | rfl))
  refine awp_loopB (X := Nat) (fun q => [.k, .k, .k, .d, .d, .d, .d, .v (.c false [.raw (.int .i64 (q : Nat))]), .d, .d, .d, .d, .d, .d, .d, .d, .d, .d, .d, .d, .d, .d, .d, .d, .d, .d, .d, .d, .d, .d]) (fun q => []) (fun q bs => bs) (fun q => q ≤ us.length ∧ rdy l o (us.take q) = true) (fun q => us.length - q) 0 ⟨Nat.zero_le _, rfl⟩ ?_ ?_
  · simp [StLe', FrLe, OwnLe, BoxLe, AV.fits, AC.fits, FB, mask]
  rintro k ⟨hk, hr⟩
  simp only [FB, mask]
  by_cases hlk : k < us.length
  · have hlt := hu us[k] (List.getElem_mem hlk)
    have hrk := runL_at l hlt
    have htk := rdy_take l o us hlk
    rw [hr] at htk
    have hhz := l1HasIntZ_to o ((us[k] : Nat) : Int) h2
    cases e1 : runB l ((us[k] : Nat) : Int) with
    | false =>
      rw [e1] at hrk htk
      repeat' (first | (with_reducible first | refine awp_seq ?_ | refine awp_block ?_ | refine awp_skip ?_ | refine awp_exit ?_ | refine awp_ret ?_ | refine athen ?_ | refine thenExit ?_ | refine thenRet ?_ | refine blockNormal ?_ | refine blockExit ?_ | refine blockRet ?_ | refine roundExit ?_ | refine roundRet ?_ | refine roundExitR ?_ | refine roundRetR ?_) | ((with_reducible refine blockPass ?_ ?_); rfl) | ((with_reducible refine awp_condT ?_ ?_); rfl) | ((with_reducible refine awp_condF ?_ ?_); rfl) | (with_reducible (refine awp_condS rfl ?_ ?_); all_goals (intro hb; have hb' := hb; (try simp only [pkC] at hb'); first | (exfalso; omega) | skip)) | ((with_reducible refine awp_reg ?_); intro K hK) | ((with_reducible refine sw_guardT ?_ ?_); rfl) | ((with_reducible refine sw_guardF ?_ ?_); (rfl; try simp only [St.put, undef, pkA, Nat.reduceAdd, Nat.reduceSub, Nat.reduceLeDiff, Nat.reduceEqDiff])) | (with_reducible (refine sw_guardS rfl ?_ ?_); all_goals (intro hb; have hb' := hb; (try simp only [pkC] at hb'); first | (exfalso; omega) | skip)) | ((with_reducible refine hK _ ?_); clear hK K) | (with_reducible refine and_split ?_ ?_) | ((with_reducible refine ct_id ?_); first | (refine callThen hhz trivial ?_ ?_)) | ((with_reducible refine ctd_id ?_); first | (refine callThenD hhz trivial ?_ ?_)) | ((with_reducible refine sw_id ?_); simp (disch := first | decide | omega) only [↓pkS, pkW, pkA, undef, capsOf, ex, St.put, St.ev, kav, gdA, opI, rawI, vbin, srcOf, avsD, acsD, AV.toD, AC.toD, AV.nw, AC.nw, AC.one, Value.oneCell', fillA, D.one, D.ones, D.sz, D.szs, Nat.reduceAdd, Nat.reduceSub, Nat.reduceLeDiff, Nat.reduceEqDiff, reduceIte, pkN, pkF, hrk, runL_g, e1]) | (first | (with_reducible rfl) | (with_reducible refine fnok_id ?_; kernel_rfl) | exact el_strs _ | exact el_ints _ | exact el_ln _ | exact el_tk _ _ | exact el_td _ _ _ | omega | (simp; done) | (simp; omega)) | ((with_reducible refine args_id ?_); simp [ArgsOk, ArgOk, argsD, argD, AC.toD, Value.oneCell', sl_flat, leaf_flat, li_flat, ls_flat, sl_agg, leaf_agg, li_agg, ls_agg, mo_t, mo_f, pkF, hrk, runL_g, e1]; first | done | rfl))
      all_goals first
        | exact runL_el _
        | (refine roundB (k + 1) ?_ ⟨by omega, htk⟩ (show us.length - (k + 1) < us.length - k by omega)
           simp [StLe', FrLe, OwnLe, BoxLe, AV.fits, AC.fits, FB, mask])
    | true =>
      rw [e1] at hrk htk
      cases e2 : hasZ o ((us[k] : Nat) : Int) with
      | true =>
        rw [e2] at htk hhz
        repeat' (first | (with_reducible first | refine awp_seq ?_ | refine awp_block ?_ | refine awp_skip ?_ | refine awp_exit ?_ | refine awp_ret ?_ | refine athen ?_ | refine thenExit ?_ | refine thenRet ?_ | refine blockNormal ?_ | refine blockExit ?_ | refine blockRet ?_ | refine roundExit ?_ | refine roundRet ?_ | refine roundExitR ?_ | refine roundRetR ?_) | ((with_reducible refine blockPass ?_ ?_); rfl) | ((with_reducible refine awp_condT ?_ ?_); rfl) | ((with_reducible refine awp_condF ?_ ?_); rfl) | (with_reducible (refine awp_condS rfl ?_ ?_); all_goals (intro hb; have hb' := hb; (try simp only [pkC] at hb'); first | (exfalso; omega) | skip)) | ((with_reducible refine awp_reg ?_); intro K hK) | ((with_reducible refine sw_guardT ?_ ?_); rfl) | ((with_reducible refine sw_guardF ?_ ?_); (rfl; try simp only [St.put, undef, pkA, Nat.reduceAdd, Nat.reduceSub, Nat.reduceLeDiff, Nat.reduceEqDiff])) | (with_reducible (refine sw_guardS rfl ?_ ?_); all_goals (intro hb; have hb' := hb; (try simp only [pkC] at hb'); first | (exfalso; omega) | skip)) | ((with_reducible refine hK _ ?_); clear hK K) | (with_reducible refine and_split ?_ ?_) | ((with_reducible refine ct_id ?_); first | (refine callThen hhz trivial ?_ ?_)) | ((with_reducible refine ctd_id ?_); first | (refine callThenD hhz trivial ?_ ?_)) | ((with_reducible refine sw_id ?_); simp (disch := first | decide | omega) only [↓pkS, pkW, pkA, undef, capsOf, ex, St.put, St.ev, kav, gdA, opI, rawI, vbin, srcOf, avsD, acsD, AV.toD, AC.toD, AV.nw, AC.nw, AC.one, Value.oneCell', fillA, D.one, D.ones, D.sz, D.szs, Nat.reduceAdd, Nat.reduceSub, Nat.reduceLeDiff, Nat.reduceEqDiff, reduceIte, pkN, pkF, hrk, runL_g, e1]) | (first | (with_reducible rfl) | (with_reducible refine fnok_id ?_; kernel_rfl) | exact el_strs _ | exact el_ints _ | exact el_ln _ | exact el_tk _ _ | exact el_td _ _ _ | omega | (simp; done) | (simp; omega)) | ((with_reducible refine args_id ?_); simp [ArgsOk, ArgOk, argsD, argD, AC.toD, Value.oneCell', sl_flat, leaf_flat, li_flat, ls_flat, sl_agg, leaf_agg, li_agg, ls_agg, mo_t, mo_f, pkF, hrk, runL_g, e1]; first | done | rfl))
        all_goals first
          | exact runL_el _
          | (refine roundB (k + 1) ?_ ⟨by omega, htk⟩ (show us.length - (k + 1) < us.length - k by omega)
             simp [StLe', FrLe, OwnLe, BoxLe, AV.fits, AC.fits, FB, mask])
      | false =>
        have hf := rdy_at hlk e1 e2
        rw [e2] at hhz
        rw [hf]
        repeat' (first | (with_reducible first | refine awp_seq ?_ | refine awp_block ?_ | refine awp_skip ?_ | refine awp_exit ?_ | refine awp_ret ?_ | refine athen ?_ | refine thenExit ?_ | refine thenRet ?_ | refine blockNormal ?_ | refine blockExit ?_ | refine blockRet ?_ | refine roundExit ?_ | refine roundRet ?_ | refine roundExitR ?_ | refine roundRetR ?_) | ((with_reducible refine blockPass ?_ ?_); rfl) | ((with_reducible refine awp_condT ?_ ?_); rfl) | ((with_reducible refine awp_condF ?_ ?_); rfl) | (with_reducible (refine awp_condS rfl ?_ ?_); all_goals (intro hb; have hb' := hb; (try simp only [pkC] at hb'); first | (exfalso; omega) | skip)) | ((with_reducible refine awp_reg ?_); intro K hK) | ((with_reducible refine sw_guardT ?_ ?_); rfl) | ((with_reducible refine sw_guardF ?_ ?_); (rfl; try simp only [St.put, undef, pkA, Nat.reduceAdd, Nat.reduceSub, Nat.reduceLeDiff, Nat.reduceEqDiff])) | (with_reducible (refine sw_guardS rfl ?_ ?_); all_goals (intro hb; have hb' := hb; (try simp only [pkC] at hb'); first | (exfalso; omega) | skip)) | ((with_reducible refine hK _ ?_); clear hK K) | (with_reducible refine and_split ?_ ?_) | ((with_reducible refine ct_id ?_); first | (refine callThen hhz trivial ?_ ?_)) | ((with_reducible refine ctd_id ?_); first | (refine callThenD hhz trivial ?_ ?_)) | ((with_reducible refine sw_id ?_); simp (disch := first | decide | omega) only [↓pkS, pkW, pkA, undef, capsOf, ex, St.put, St.ev, kav, gdA, opI, rawI, vbin, srcOf, avsD, acsD, AV.toD, AC.toD, AV.nw, AC.nw, AC.one, Value.oneCell', fillA, D.one, D.ones, D.sz, D.szs, Nat.reduceAdd, Nat.reduceSub, Nat.reduceLeDiff, Nat.reduceEqDiff, reduceIte, pkN, pkF, hrk, runL_g, e1]) | (first | (with_reducible rfl) | (with_reducible refine fnok_id ?_; kernel_rfl) | exact el_strs _ | exact el_ints _ | exact el_ln _ | exact el_tk _ _ | exact el_td _ _ _ | omega | (simp; done) | (simp; omega)) | ((with_reducible refine args_id ?_); simp [ArgsOk, ArgOk, argsD, argD, AC.toD, Value.oneCell', sl_flat, leaf_flat, li_flat, ls_flat, sl_agg, leaf_agg, li_agg, ls_agg, mo_t, mo_f, pkF, hrk, runL_g, e1]; first | done | rfl))
        all_goals first
          | exact runL_el _
          | exact endRet ⟨_, rfl, rfl, trivial⟩
  · obtain rfl : k = us.length := by omega
    rw [List.take_length] at hr
    rw [hr]
    repeat' (first | (with_reducible first | refine awp_seq ?_ | refine awp_block ?_ | refine awp_skip ?_ | refine awp_exit ?_ | refine awp_ret ?_ | refine athen ?_ | refine thenExit ?_ | refine thenRet ?_ | refine blockNormal ?_ | refine blockExit ?_ | refine blockRet ?_ | refine roundExit ?_ | refine roundRet ?_ | refine roundExitR ?_ | refine roundRetR ?_) | ((with_reducible refine blockPass ?_ ?_); rfl) | ((with_reducible refine awp_condT ?_ ?_); rfl) | ((with_reducible refine awp_condF ?_ ?_); rfl) | (with_reducible (refine awp_condS rfl ?_ ?_); all_goals (intro hb; have hb' := hb; (try simp only [pkC] at hb'); first | (exfalso; omega) | skip)) | ((with_reducible refine awp_reg ?_); intro K hK) | ((with_reducible refine sw_guardT ?_ ?_); rfl) | ((with_reducible refine sw_guardF ?_ ?_); (rfl; try simp only [St.put, undef, pkA, Nat.reduceAdd, Nat.reduceSub, Nat.reduceLeDiff, Nat.reduceEqDiff])) | (with_reducible (refine sw_guardS rfl ?_ ?_); all_goals (intro hb; have hb' := hb; (try simp only [pkC] at hb'); first | (exfalso; omega) | skip)) | ((with_reducible refine hK _ ?_); clear hK K) | (with_reducible refine and_split ?_ ?_) | ((with_reducible refine sw_id ?_); simp (disch := first | decide | omega) only [↓pkS, pkW, pkA, undef, capsOf, ex, St.put, St.ev, kav, gdA, opI, rawI, vbin, srcOf, avsD, acsD, AV.toD, AC.toD, AV.nw, AC.nw, AC.one, Value.oneCell', fillA, D.one, D.ones, D.sz, D.szs, Nat.reduceAdd, Nat.reduceSub, Nat.reduceLeDiff, Nat.reduceEqDiff, reduceIte, pkN, pkF]) | (first | (with_reducible rfl) | (with_reducible refine fnok_id ?_; kernel_rfl) | exact el_strs _ | exact el_ints _ | exact el_ln _ | exact el_tk _ _ | exact el_td _ _ _ | omega | (simp; done) | (simp; omega)) | ((with_reducible refine args_id ?_); simp [ArgsOk, ArgOk, argsD, argD, AC.toD, Value.oneCell', sl_flat, leaf_flat, li_flat, ls_flat, sl_agg, leaf_agg, li_agg, ls_agg, mo_t, mo_f, pkF]; first | done | rfl))
    exact endRet ⟨_, rfl, rfl, trivial⟩
def ic_ord25 : IC := (.seq (.reg false [⟨(some 6), none, .mov (.k (.slice none 0 0))⟩]) (.seq (.reg false [⟨(some 12), none, .mov (.t 0)⟩, ⟨(some 13), none, .len false (.t 12)⟩, ⟨(some 14), none, .mk 4 (.bool false) (.t 13)⟩, ⟨(some 7), none, .mov (.t 14)⟩]) (.seq (.reg false [⟨(some 8), none, .mov (.k (.int .i64 0))⟩]) (.seq (.seq (.reg false [⟨(some 9), none, .mov (.k (.int .i64 0))⟩]) (.block 0 (.loop (.seq (.seq (.reg false [⟨(some 15), none, .mov (.t 9)⟩, ⟨(some 16), none, .mov (.t 0)⟩, ⟨(some 17), none, .len false (.t 16)⟩, ⟨(some 18), none, .bin .lss (.t 15) (.t 17)⟩]) (.cond (.t 18) .skip (.exit 0))) (.seq (.block 1 (.seq (.reg false [⟨(some 21), none, .mov (.t 7)⟩, ⟨(some 22), none, .mov (.t 9)⟩, ⟨(some 23), none, .mov (.t 2)⟩, ⟨(some 24), none, .mov (.t 9)⟩, ⟨(some 25), none, .iad 1 (.t 23) (.t 24)⟩, ⟨(some 26), none, .load 1 false (.t 25)⟩, ⟨(some 27), none, .not (.t 26)⟩, ⟨(some 28), none, .mov (.t 27)⟩, ⟨(some 29), (some (28, true)), .mov (.t 0)⟩, ⟨(some 30), (some (28, true)), .mov (.t 9)⟩, ⟨(some 31), (some (28, true)), .call 31 [(.t 29), (.t 30)]⟩, ⟨(some 32), (some (28, true)), .not (.t 31)⟩, ⟨(some 33), none, .pick (.t 28) (.t 32) (.k (.bool false))⟩, ⟨(some 34), none, .mov (.t 33)⟩, ⟨(some 35), (some (34, true)), .mov (.t 0)⟩, ⟨(some 36), (some (34, true)), .mov (.t 9)⟩, ⟨(some 37), (some (34, true)), .iad 14 (.t 35) (.t 36)⟩, ⟨(some 38), (some (34, true)), .fad 0 (.t 37)⟩, ⟨(some 39), (some (34, true)), .load 1 false (.t 38)⟩, ⟨(some 40), (some (34, true)), .bin .eql (.t 39) (.k (.int .i64 2))⟩, ⟨(some 41), (some (34, true)), .mov (.t 40)⟩, ⟨(some 42), (some (41, false)), .mov (.t 0)⟩, ⟨(some 43), (some (41, false)), .mov (.t 9)⟩, ⟨(some 44), (some (41, false)), .iad 14 (.t 42) (.t 43)⟩, ⟨(some 45), (some (41, false)), .fad 0 (.t 44)⟩, ⟨(some 46), (some (41, false)), .load 1 false (.t 45)⟩, ⟨(some 47), (some (41, false)), .bin .eql (.t 46) (.k (.int .i64 3))⟩, ⟨(some 48), (some (34, true)), .pick (.t 41) (.k (.bool true)) (.t 47)⟩, ⟨(some 49), none, .pick (.t 34) (.t 48) (.k (.bool false))⟩, ⟨(some 50), none, .iad 1 (.t 21) (.t 22)⟩, ⟨none, none, .store 1 (.t 50) (.t 49)⟩]) (.seq (.reg false [⟨(some 51), none, .mov (.t 7)⟩, ⟨(some 52), none, .mov (.t 9)⟩, ⟨(some 53), none, .iad 1 (.t 51) (.t 52)⟩, ⟨(some 54), none, .load 1 false (.t 53)⟩]) (.cond (.t 54) (.reg false [⟨(some 55), none, .mov (.t 8)⟩, ⟨(some 56), none, .bin .add (.t 55) (.k (.int .i64 1))⟩, ⟨(some 8), none, .mov (.t 56)⟩]) .skip)))) (.reg false [⟨(some 19), none, .mov (.t 9)⟩, ⟨(some 20), none, .bin .add (.t 19) (.k (.int .i64 1))⟩, ⟨(some 9), none, .mov (.t 20)⟩])))))) (.seq (.reg false [⟨(some 57), none, .brow true 3 1 0 false []⟩, ⟨(some 10), none, .mov (.t 57)⟩]) (.seq (.block 2 (.loop (.seq (.seq (.reg false [⟨(some 58), none, .mov (.t 10)⟩, ⟨(some 59), none, .len false (.t 58)⟩, ⟨(some 60), none, .mov (.t 8)⟩, ⟨(some 61), none, .bin .lss (.t 59) (.t 60)⟩]) (.cond (.t 61) .skip (.exit 2))) (.block 3 (.seq (.reg false [⟨(some 11), none, .mov (.k (.int .i64 0))⟩]) (.block 4 (.loop (.seq (.seq (.reg false [⟨(some 62), none, .mov (.t 11)⟩, ⟨(some 63), none, .mov (.t 0)⟩, ⟨(some 64), none, .len false (.t 63)⟩, ⟨(some 65), none, .bin .lss (.t 62) (.t 64)⟩]) (.cond (.t 65) .skip (.exit 4))) (.seq (.block 5 (.seq (.reg false [⟨(some 68), none, .mov (.t 7)⟩, ⟨(some 69), none, .mov (.t 11)⟩, ⟨(some 70), none, .iad 1 (.t 68) (.t 69)⟩, ⟨(some 71), none, .load 1 false (.t 70)⟩, ⟨(some 72), none, .mov (.t 71)⟩, ⟨(some 73), (some (72, true)), .mov (.t 10)⟩, ⟨(some 74), (some (72, true)), .mov (.t 11)⟩, ⟨(some 75), (some (72, true)), .call 32 [(.t 73), (.t 74)]⟩, ⟨(some 76), (some (72, true)), .not (.t 75)⟩, ⟨(some 77), none, .pick (.t 72) (.t 76) (.k (.bool false))⟩, ⟨(some 78), none, .mov (.t 77)⟩, ⟨(some 79), (some (78, true)), .mov (.t 10)⟩, ⟨(some 80), (some (78, true)), .mov (.t 1)⟩, ⟨(some 81), (some (78, true)), .mov (.t 11)⟩, ⟨(some 82), (some (78, true)), .iad 1 (.t 80) (.t 81)⟩, ⟨(some 83), (some (78, true)), .load 1 false (.t 82)⟩, ⟨(some 84), (some (78, true)), .mov (.t 7)⟩, ⟨(some 85), (some (78, true)), .call 33 [(.t 79), (.t 83), (.t 84)]⟩, ⟨(some 86), none, .pick (.t 78) (.t 85) (.k (.bool false))⟩]) (.cond (.t 86) (.seq (.reg false [⟨(some 87), none, .mov (.t 10)⟩, ⟨(some 88), none, .mov (.t 11)⟩, ⟨(some 89), none, .brow false 3 1 1 false [(.t 88)]⟩, ⟨(some 90), none, .app 3 1 (.t 87) (.t 89)⟩, ⟨(some 10), none, .mov (.t 90)⟩]) (.exit 4)) .skip))) (.reg false [⟨(some 66), none, .mov (.t 11)⟩, ⟨(some 67), none, .bin .add (.t 66) (.k (.int .i64 1))⟩, ⟨(some 11), none, .mov (.t 67)⟩])))))))))) (.seq (.reg false [⟨(some 91), none, .mov (.t 10)⟩, ⟨(some 6), none, .mov (.t 91)⟩]) .ret)))))))
theorem ic_ord25_ok : compC Tryz.prog (Tryz.f15.body.getD .skip) = some ic_ord25 := by kernel_rfl
theorem hrb_of (l : List GPart) {i : Nat} (hi : i < l.length) : runB l (i : Int) = ((l[i].kind == 2 || l[i].kind == 3) && !dupB l (i : Int) && !onC l (i : Int)) := by
  have := runB_at l (z := (i : Int)) (by omega) (by simpa using hi)
  simpa [kOk] using this
set_option maxHeartbeats 16000000 in
theorem l25Order_to (l : List GPart) (hw : l.length + D.wts (l.map GPart.toD) ≤ 1048576) : CallsOwn Tryz.prog 15 [.sl (l.map GPart.toD), .sl (tblTo l l.length), .sl (cycL l)] ((ordL l).map li) 3 1 := by
  have hn : l.length ≤ 1048576 := by omega
  have htl := tblTo_len l l.length
  have hcl := cycL_len l
  have hrl := runL_len l
  refine calls_own (fn := Tryz.f15) (t := 6) (by kernel_rfl) (by kernel_rfl) (by kernel_rfl) ic_ord25_ok ?_
  unfold ic_ord25
  change AWP _ _ _ (st0 92 _)
  simp only [undef, stS, st0, stN, D.av, D.avN, sl_agg, leaf_agg, li_agg, ls_agg, sl_acs, leaf_acs, li_acs, ls_acs, ln_acs, el_ln, getq_map, GPart.acs_eq, GPart.flat_eq, GPart.agg_eq, GPart.el, List.map_cons, List.map_nil, List.replicate, List.cons_append, List.nil_append, List.length_cons, List.length_nil, Nat.reduceAdd, Nat.reduceSub]
  repeat' (first | (with_reducible first | refine awp_seq ?_ | refine awp_block ?_ | refine awp_skip ?_ | refine awp_exit ?_ | refine awp_ret ?_ | refine athen ?_ | refine thenExit ?_ | refine thenRet ?_ | refine blockNormal ?_ | refine blockExit ?_ | refine blockRet ?_ | refine roundExit ?_ | refine roundRet ?_ | refine roundExitR ?_ | refine roundRetR ?_) | ((with_reducible refine blockPass ?_ ?_); rfl) | ((with_reducible refine awp_condT ?_ ?_); rfl) | ((with_reducible refine awp_condF ?_ ?_); rfl) | (with_reducible (refine awp_condS rfl ?_ ?_); all_goals (intro hb; have hb' := hb; (try simp only [pkC] at hb'); first | (exfalso; omega) | skip)) | ((with_reducible refine awp_reg ?_); intro K hK) | ((with_reducible refine sw_guardT ?_ ?_); rfl) | ((with_reducible refine sw_guardF ?_ ?_); (rfl; try simp only [St.put, undef, pkA, Nat.reduceAdd, Nat.reduceSub, Nat.reduceLeDiff, Nat.reduceEqDiff])) | (with_reducible (refine sw_guardS rfl ?_ ?_); all_goals (intro hb; have hb' := hb; (try simp only [pkC] at hb'); first | (exfalso; omega) | skip)) | ((with_reducible refine hK _ ?_); clear hK K) | (with_reducible refine and_split ?_ ?_) | ((with_reducible refine sw_id ?_); simp (disch := first | decide | omega) only [↓pkS, pkW, pkA, undef, capsOf, ex, St.put, St.ev, kav, gdA, opI, rawI, vbin, srcOf, avsD, acsD, AV.toD, AC.toD, AV.nw, AC.nw, AC.one, Value.oneCell', fillA, D.one, D.ones, D.sz, D.szs, Nat.reduceAdd, Nat.reduceSub, Nat.reduceLeDiff, Nat.reduceEqDiff, reduceIte, pkN, pkF, htl, hcl, hrl]) | (first | (with_reducible rfl) | (with_reducible refine fnok_id ?_; kernel_rfl) | exact el_strs _ | exact el_ints _ | exact el_ln _ | exact el_tk _ _ | exact el_td _ _ _ | omega | (simp; done) | (simp; omega)) | ((with_reducible refine args_id ?_); simp [ArgsOk, ArgOk, argsD, argD, AC.toD, Value.oneCell', sl_flat, leaf_flat, li_flat, ls_flat, sl_agg, leaf_agg, li_agg, ls_agg, mo_t, mo_f, pkF, htl, hcl, hrl]; first | done | rfl))
  refine awp_loopB (X := Nat) (fun q => [.k, .k, .k, .d, .d, .d, .d, .k, .v (.c false [.raw (.int .i64 (cntR l q : Nat))]), .v (.c false [.raw (.int .i64 (q : Nat))]), .d, .d, .d, .d, .d, .d, .d, .d, .d, .d, .d, .d, .d, .d, .d, .d, .d, .d, .d, .d, .d, .d, .d, .d, .d, .d, .d, .d, .d, .d, .d, .d, .d, .d, .d, .d, .d, .d, .d, .d, .d, .d, .d, .d, .d, .d, .d, .d, .d, .d, .d, .d, .d, .d, .d, .d, .d, .d, .d, .d, .d, .d, .d, .d, .d, .d, .d, .d, .d, .d, .d, .d, .d, .d, .d, .d, .d, .d, .d, .d, .d, .d]) (fun q => [⟨runTo l q l.length, 4, 1, 0, true⟩]) (fun q bs => bs) (fun q => q ≤ l.length) (fun q => l.length - q) 0 (Nat.zero_le _) ?_ ?_
  · simp [StLe', FrLe, OwnLe, BoxLe, AV.fits, AC.fits, FB, mask, runTo_zero l l.length, cntR, sumF]
  rintro i hi
  have hi' : i ≤ l.length := hi
  clear hi
  simp only [FB, mask]
  by_cases hli : i < l.length
  · have hca := cycL_at l hli
    have hdup := isDup_spec_t l (i : Int) hn
    have hra := hrb_of l hli
    have hrkk : runTo l i l.length = runTo l i l.length := rfl
    have hcle := cntR_le l i
    cases c1 : onC l (i : Int) with
    | true =>
      rw [c1] at hca
      have hrb : runB l ((i : Nat) : Int) = false := by rw [hra]; simp [c1]
      have hset := runTo_set l hli
      rw [hrb] at hset
      have hget : (runTo l (i + 1) l.length)[i]? = some (.leaf (.bool false)) := by
        unfold runTo
        rw [List.getElem?_map, List.getElem?_range hli]
        simp [cycD, hrb]
      have hcs := cntR_succ l i
      rw [hrb] at hcs
      simp only [if_true, Bool.false_eq_true, if_false, Nat.add_zero] at hcs
      repeat' (first | (with_reducible first | refine awp_seq ?_ | refine awp_block ?_ | refine awp_skip ?_ | refine awp_exit ?_ | refine awp_ret ?_ | refine athen ?_ | refine thenExit ?_ | refine thenRet ?_ | refine blockNormal ?_ | refine blockExit ?_ | refine blockRet ?_ | refine roundExit ?_ | refine roundRet ?_ | refine roundExitR ?_ | refine roundRetR ?_) | ((with_reducible refine blockPass ?_ ?_); rfl) | ((with_reducible refine awp_condT ?_ ?_); rfl) | ((with_reducible refine awp_condF ?_ ?_); rfl) | (with_reducible (refine awp_condS rfl ?_ ?_); all_goals (intro hb; have hb' := hb; (try simp only [pkC] at hb'); first | (exfalso; omega) | skip)) | ((with_reducible refine awp_reg ?_); intro K hK) | ((with_reducible refine sw_guardT ?_ ?_); rfl) | ((with_reducible refine sw_guardF ?_ ?_); (rfl; try simp only [St.put, undef, pkA, Nat.reduceAdd, Nat.reduceSub, Nat.reduceLeDiff, Nat.reduceEqDiff])) | (with_reducible (refine sw_guardS rfl ?_ ?_); all_goals (intro hb; have hb' := hb; (try simp only [pkC] at hb'); first | (exfalso; omega) | skip)) | ((with_reducible refine hK _ ?_); clear hK K) | (with_reducible refine and_split ?_ ?_) | ((with_reducible refine ct_id ?_); first | (refine callThen hdup trivial ?_ ?_)) | ((with_reducible refine ctd_id ?_); first | (refine callThenD hdup trivial ?_ ?_)) | ((with_reducible refine sw_id ?_); simp (disch := first | decide | omega) only [↓pkS, pkW, pkA, undef, capsOf, ex, St.put, St.ev, kav, gdA, opI, rawI, vbin, srcOf, avsD, acsD, AV.toD, AC.toD, AV.nw, AC.nw, AC.one, Value.oneCell', fillA, D.one, D.ones, D.sz, D.szs, Nat.reduceAdd, Nat.reduceSub, Nat.reduceLeDiff, Nat.reduceEqDiff, reduceIte, pkN, pkF, c1, hset, hget, hca, cycL_g, runTo_len]) | (first | (with_reducible rfl) | (with_reducible refine fnok_id ?_; kernel_rfl) | exact el_strs _ | exact el_ints _ | exact el_ln _ | exact el_tk _ _ | exact el_td _ _ _ | omega | (simp; done) | (simp; omega)) | ((with_reducible refine args_id ?_); simp [ArgsOk, ArgOk, argsD, argD, AC.toD, Value.oneCell', sl_flat, leaf_flat, li_flat, ls_flat, sl_agg, leaf_agg, li_agg, ls_agg, mo_t, mo_f, pkF, c1, hset, hget, hca, cycL_g, runTo_len]; first | done | rfl))
      all_goals first
        | (simp only [runTo_len]; omega)
        | exact cycL_el _
        | (refine roundB (i + 1) ?_ (show i + 1 ≤ l.length by omega) (show l.length - (i + 1) < l.length - i by omega)
           simp [StLe', FrLe, OwnLe, BoxLe, AV.fits, AC.fits, FB, mask, hcs])
    | false =>
      rw [c1] at hca
      cases c2 : dupB l (i : Int) with
      | true =>
        rw [c2] at hdup
        have hrb : runB l ((i : Nat) : Int) = false := by rw [hra]; simp [c1, c2]
        have hset := runTo_set l hli
        rw [hrb] at hset
        have hget : (runTo l (i + 1) l.length)[i]? = some (.leaf (.bool false)) := by
          unfold runTo
          rw [List.getElem?_map, List.getElem?_range hli]
          simp [cycD, hrb]
        have hcs := cntR_succ l i
        rw [hrb] at hcs
        simp only [if_true, Bool.false_eq_true, if_false, Nat.add_zero] at hcs
        repeat' (first | (with_reducible first | refine awp_seq ?_ | refine awp_block ?_ | refine awp_skip ?_ | refine awp_exit ?_ | refine awp_ret ?_ | refine athen ?_ | refine thenExit ?_ | refine thenRet ?_ | refine blockNormal ?_ | refine blockExit ?_ | refine blockRet ?_ | refine roundExit ?_ | refine roundRet ?_ | refine roundExitR ?_ | refine roundRetR ?_) | ((with_reducible refine blockPass ?_ ?_); rfl) | ((with_reducible refine awp_condT ?_ ?_); rfl) | ((with_reducible refine awp_condF ?_ ?_); rfl) | (with_reducible (refine awp_condS rfl ?_ ?_); all_goals (intro hb; have hb' := hb; (try simp only [pkC] at hb'); first | (exfalso; omega) | skip)) | ((with_reducible refine awp_reg ?_); intro K hK) | ((with_reducible refine sw_guardT ?_ ?_); rfl) | ((with_reducible refine sw_guardF ?_ ?_); (rfl; try simp only [St.put, undef, pkA, Nat.reduceAdd, Nat.reduceSub, Nat.reduceLeDiff, Nat.reduceEqDiff])) | (with_reducible (refine sw_guardS rfl ?_ ?_); all_goals (intro hb; have hb' := hb; (try simp only [pkC] at hb'); first | (exfalso; omega) | skip)) | ((with_reducible refine hK _ ?_); clear hK K) | (with_reducible refine and_split ?_ ?_) | ((with_reducible refine ct_id ?_); first | (refine callThen hdup trivial ?_ ?_)) | ((with_reducible refine ctd_id ?_); first | (refine callThenD hdup trivial ?_ ?_)) | ((with_reducible refine sw_id ?_); simp (disch := first | decide | omega) only [↓pkS, pkW, pkA, undef, capsOf, ex, St.put, St.ev, kav, gdA, opI, rawI, vbin, srcOf, avsD, acsD, AV.toD, AC.toD, AV.nw, AC.nw, AC.one, Value.oneCell', fillA, D.one, D.ones, D.sz, D.szs, Nat.reduceAdd, Nat.reduceSub, Nat.reduceLeDiff, Nat.reduceEqDiff, reduceIte, pkN, pkF, c1, c2, hset, hget, hca, cycL_g, runTo_len]) | (first | (with_reducible rfl) | (with_reducible refine fnok_id ?_; kernel_rfl) | exact el_strs _ | exact el_ints _ | exact el_ln _ | exact el_tk _ _ | exact el_td _ _ _ | omega | (simp; done) | (simp; omega)) | ((with_reducible refine args_id ?_); simp [ArgsOk, ArgOk, argsD, argD, AC.toD, Value.oneCell', sl_flat, leaf_flat, li_flat, ls_flat, sl_agg, leaf_agg, li_agg, ls_agg, mo_t, mo_f, pkF, c1, c2, hset, hget, hca, cycL_g, runTo_len]; first | done | rfl))
        all_goals first
          | (simp only [runTo_len]; omega)
          | exact cycL_el _
          | (refine roundB (i + 1) ?_ (show i + 1 ≤ l.length by omega) (show l.length - (i + 1) < l.length - i by omega)
             simp [StLe', FrLe, OwnLe, BoxLe, AV.fits, AC.fits, FB, mask, hcs])
      | false =>
        rw [c2] at hdup
        cases c3 : (l[i].kind == 2) with
        | true =>
          have hrb : runB l ((i : Nat) : Int) = true := by rw [hra]; simp [c1, c2, c3]
          have hset := runTo_set l hli
          rw [hrb] at hset
          have hget : (runTo l (i + 1) l.length)[i]? = some (.leaf (.bool true)) := by
            unfold runTo
            rw [List.getElem?_map, List.getElem?_range hli]
            simp [cycD, hrb]
          have hcs := cntR_succ l i
          rw [hrb] at hcs
          simp only [if_true, Bool.false_eq_true, if_false, Nat.add_zero] at hcs
          repeat' (first | (with_reducible first | refine awp_seq ?_ | refine awp_block ?_ | refine awp_skip ?_ | refine awp_exit ?_ | refine awp_ret ?_ | refine athen ?_ | refine thenExit ?_ | refine thenRet ?_ | refine blockNormal ?_ | refine blockExit ?_ | refine blockRet ?_ | refine roundExit ?_ | refine roundRet ?_ | refine roundExitR ?_ | refine roundRetR ?_) | ((with_reducible refine blockPass ?_ ?_); rfl) | ((with_reducible refine awp_condT ?_ ?_); rfl) | ((with_reducible refine awp_condF ?_ ?_); rfl) | (with_reducible (refine awp_condS rfl ?_ ?_); all_goals (intro hb; have hb' := hb; (try simp only [pkC] at hb'); first | (exfalso; omega) | skip)) | ((with_reducible refine awp_reg ?_); intro K hK) | ((with_reducible refine sw_guardT ?_ ?_); rfl) | ((with_reducible refine sw_guardF ?_ ?_); (rfl; try simp only [St.put, undef, pkA, Nat.reduceAdd, Nat.reduceSub, Nat.reduceLeDiff, Nat.reduceEqDiff])) | (with_reducible (refine sw_guardS rfl ?_ ?_); all_goals (intro hb; have hb' := hb; (try simp only [pkC] at hb'); first | (exfalso; omega) | skip)) | ((with_reducible refine hK _ ?_); clear hK K) | (with_reducible refine and_split ?_ ?_) | ((with_reducible refine ct_id ?_); first | (refine callThen hdup trivial ?_ ?_)) | ((with_reducible refine ctd_id ?_); first | (refine callThenD hdup trivial ?_ ?_)) | ((with_reducible refine sw_id ?_); simp (disch := first | decide | omega) only [↓pkS, pkW, pkA, undef, capsOf, ex, St.put, St.ev, kav, gdA, opI, rawI, vbin, srcOf, avsD, acsD, AV.toD, AC.toD, AV.nw, AC.nw, AC.one, Value.oneCell', fillA, D.one, D.ones, D.sz, D.szs, Nat.reduceAdd, Nat.reduceSub, Nat.reduceLeDiff, Nat.reduceEqDiff, reduceIte, pkN, pkF, c1, c2, c3, hset, hget, hca, cycL_g, runTo_len]) | (first | (with_reducible rfl) | (with_reducible refine fnok_id ?_; kernel_rfl) | exact el_strs _ | exact el_ints _ | exact el_ln _ | exact el_tk _ _ | exact el_td _ _ _ | omega | (simp; done) | (simp; omega)) | ((with_reducible refine args_id ?_); simp [ArgsOk, ArgOk, argsD, argD, AC.toD, Value.oneCell', sl_flat, leaf_flat, li_flat, ls_flat, sl_agg, leaf_agg, li_agg, ls_agg, mo_t, mo_f, pkF, c1, c2, c3, hset, hget, hca, cycL_g, runTo_len]; first | done | rfl))
          all_goals first
            | (simp only [runTo_len]; omega)
            | exact cycL_el _
            | (refine roundB (i + 1) ?_ (show i + 1 ≤ l.length by omega) (show l.length - (i + 1) < l.length - i by omega)
               simp [StLe', FrLe, OwnLe, BoxLe, AV.fits, AC.fits, FB, mask, hcs])
        | false =>
          cases c4 : (l[i].kind == 3) with
          | true =>
            have hrb : runB l ((i : Nat) : Int) = true := by rw [hra]; simp [c1, c2, c3, c4]
            have hset := runTo_set l hli
            rw [hrb] at hset
            have hget : (runTo l (i + 1) l.length)[i]? = some (.leaf (.bool true)) := by
              unfold runTo
              rw [List.getElem?_map, List.getElem?_range hli]
              simp [cycD, hrb]
            have hcs := cntR_succ l i
            rw [hrb] at hcs
            simp only [if_true, Bool.false_eq_true, if_false, Nat.add_zero] at hcs
            repeat' (first | (with_reducible first | refine awp_seq ?_ | refine awp_block ?_ | refine awp_skip ?_ | refine awp_exit ?_ | refine awp_ret ?_ | refine athen ?_ | refine thenExit ?_ | refine thenRet ?_ | refine blockNormal ?_ | refine blockExit ?_ | refine blockRet ?_ | refine roundExit ?_ | refine roundRet ?_ | refine roundExitR ?_ | refine roundRetR ?_) | ((with_reducible refine blockPass ?_ ?_); rfl) | ((with_reducible refine awp_condT ?_ ?_); rfl) | ((with_reducible refine awp_condF ?_ ?_); rfl) | (with_reducible (refine awp_condS rfl ?_ ?_); all_goals (intro hb; have hb' := hb; (try simp only [pkC] at hb'); first | (exfalso; omega) | skip)) | ((with_reducible refine awp_reg ?_); intro K hK) | ((with_reducible refine sw_guardT ?_ ?_); rfl) | ((with_reducible refine sw_guardF ?_ ?_); (rfl; try simp only [St.put, undef, pkA, Nat.reduceAdd, Nat.reduceSub, Nat.reduceLeDiff, Nat.reduceEqDiff])) | (with_reducible (refine sw_guardS rfl ?_ ?_); all_goals (intro hb; have hb' := hb; (try simp only [pkC] at hb'); first | (exfalso; omega) | skip)) | ((with_reducible refine hK _ ?_); clear hK K) | (with_reducible refine and_split ?_ ?_) | ((with_reducible refine ct_id ?_); first | (refine callThen hdup trivial ?_ ?_)) | ((with_reducible refine ctd_id ?_); first | (refine callThenD hdup trivial ?_ ?_)) | ((with_reducible refine sw_id ?_); simp (disch := first | decide | omega) only [↓pkS, pkW, pkA, undef, capsOf, ex, St.put, St.ev, kav, gdA, opI, rawI, vbin, srcOf, avsD, acsD, AV.toD, AC.toD, AV.nw, AC.nw, AC.one, Value.oneCell', fillA, D.one, D.ones, D.sz, D.szs, Nat.reduceAdd, Nat.reduceSub, Nat.reduceLeDiff, Nat.reduceEqDiff, reduceIte, pkN, pkF, c1, c2, c3, c4, hset, hget, hca, cycL_g, runTo_len]) | (first | (with_reducible rfl) | (with_reducible refine fnok_id ?_; kernel_rfl) | exact el_strs _ | exact el_ints _ | exact el_ln _ | exact el_tk _ _ | exact el_td _ _ _ | omega | (simp; done) | (simp; omega)) | ((with_reducible refine args_id ?_); simp [ArgsOk, ArgOk, argsD, argD, AC.toD, Value.oneCell', sl_flat, leaf_flat, li_flat, ls_flat, sl_agg, leaf_agg, li_agg, ls_agg, mo_t, mo_f, pkF, c1, c2, c3, c4, hset, hget, hca, cycL_g, runTo_len]; first | done | rfl))
            all_goals first
              | (simp only [runTo_len]; omega)
              | exact cycL_el _
              | (refine roundB (i + 1) ?_ (show i + 1 ≤ l.length by omega) (show l.length - (i + 1) < l.length - i by omega)
                 simp [StLe', FrLe, OwnLe, BoxLe, AV.fits, AC.fits, FB, mask, hcs])
          | false =>
            have hrb : runB l ((i : Nat) : Int) = false := by rw [hra]; simp [c1, c2, c3, c4]
            have hset := runTo_set l hli
            rw [hrb] at hset
            have hget : (runTo l (i + 1) l.length)[i]? = some (.leaf (.bool false)) := by
              unfold runTo
              rw [List.getElem?_map, List.getElem?_range hli]
              simp [cycD, hrb]
            have hcs := cntR_succ l i
            rw [hrb] at hcs
            simp only [if_true, Bool.false_eq_true, if_false, Nat.add_zero] at hcs
            repeat' (first | (with_reducible first | refine awp_seq ?_ | refine awp_block ?_ | refine awp_skip ?_ | refine awp_exit ?_ | refine awp_ret ?_ | refine athen ?_ | refine thenExit ?_ | refine thenRet ?_ | refine blockNormal ?_ | refine blockExit ?_ | refine blockRet ?_ | refine roundExit ?_ | refine roundRet ?_ | refine roundExitR ?_ | refine roundRetR ?_) | ((with_reducible refine blockPass ?_ ?_); rfl) | ((with_reducible refine awp_condT ?_ ?_); rfl) | ((with_reducible refine awp_condF ?_ ?_); rfl) | (with_reducible (refine awp_condS rfl ?_ ?_); all_goals (intro hb; have hb' := hb; (try simp only [pkC] at hb'); first | (exfalso; omega) | skip)) | ((with_reducible refine awp_reg ?_); intro K hK) | ((with_reducible refine sw_guardT ?_ ?_); rfl) | ((with_reducible refine sw_guardF ?_ ?_); (rfl; try simp only [St.put, undef, pkA, Nat.reduceAdd, Nat.reduceSub, Nat.reduceLeDiff, Nat.reduceEqDiff])) | (with_reducible (refine sw_guardS rfl ?_ ?_); all_goals (intro hb; have hb' := hb; (try simp only [pkC] at hb'); first | (exfalso; omega) | skip)) | ((with_reducible refine hK _ ?_); clear hK K) | (with_reducible refine and_split ?_ ?_) | ((with_reducible refine ct_id ?_); first | (refine callThen hdup trivial ?_ ?_)) | ((with_reducible refine ctd_id ?_); first | (refine callThenD hdup trivial ?_ ?_)) | ((with_reducible refine sw_id ?_); simp (disch := first | decide | omega) only [↓pkS, pkW, pkA, undef, capsOf, ex, St.put, St.ev, kav, gdA, opI, rawI, vbin, srcOf, avsD, acsD, AV.toD, AC.toD, AV.nw, AC.nw, AC.one, Value.oneCell', fillA, D.one, D.ones, D.sz, D.szs, Nat.reduceAdd, Nat.reduceSub, Nat.reduceLeDiff, Nat.reduceEqDiff, reduceIte, pkN, pkF, c1, c2, c3, c4, hset, hget, hca, cycL_g, runTo_len]) | (first | (with_reducible rfl) | (with_reducible refine fnok_id ?_; kernel_rfl) | exact el_strs _ | exact el_ints _ | exact el_ln _ | exact el_tk _ _ | exact el_td _ _ _ | omega | (simp; done) | (simp; omega)) | ((with_reducible refine args_id ?_); simp [ArgsOk, ArgOk, argsD, argD, AC.toD, Value.oneCell', sl_flat, leaf_flat, li_flat, ls_flat, sl_agg, leaf_agg, li_agg, ls_agg, mo_t, mo_f, pkF, c1, c2, c3, c4, hset, hget, hca, cycL_g, runTo_len]; first | done | rfl))
            all_goals first
              | (simp only [runTo_len]; omega)
              | exact cycL_el _
              | (refine roundB (i + 1) ?_ (show i + 1 ≤ l.length by omega) (show l.length - (i + 1) < l.length - i by omega)
                 simp [StLe', FrLe, OwnLe, BoxLe, AV.fits, AC.fits, FB, mask, hcs])
  obtain rfl : i = l.length := by omega
  rw [runTo_all]
  repeat' (first | (with_reducible first | refine awp_seq ?_ | refine awp_block ?_ | refine awp_skip ?_ | refine awp_exit ?_ | refine awp_ret ?_ | refine athen ?_ | refine thenExit ?_ | refine thenRet ?_ | refine blockNormal ?_ | refine blockExit ?_ | refine blockRet ?_ | refine roundExit ?_ | refine roundRet ?_ | refine roundExitR ?_ | refine roundRetR ?_) | ((with_reducible refine blockPass ?_ ?_); rfl) | ((with_reducible refine awp_condT ?_ ?_); rfl) | ((with_reducible refine awp_condF ?_ ?_); rfl) | (with_reducible (refine awp_condS rfl ?_ ?_); all_goals (intro hb; have hb' := hb; (try simp only [pkC] at hb'); first | (exfalso; omega) | skip)) | ((with_reducible refine awp_reg ?_); intro K hK) | ((with_reducible refine sw_guardT ?_ ?_); rfl) | ((with_reducible refine sw_guardF ?_ ?_); (rfl; try simp only [St.put, undef, pkA, Nat.reduceAdd, Nat.reduceSub, Nat.reduceLeDiff, Nat.reduceEqDiff])) | (with_reducible (refine sw_guardS rfl ?_ ?_); all_goals (intro hb; have hb' := hb; (try simp only [pkC] at hb'); first | (exfalso; omega) | skip)) | ((with_reducible refine hK _ ?_); clear hK K) | (with_reducible refine and_split ?_ ?_) | ((with_reducible refine sw_id ?_); simp (disch := first | decide | omega) only [↓pkS, pkW, pkA, undef, capsOf, ex, St.put, St.ev, kav, gdA, opI, rawI, vbin, srcOf, avsD, acsD, AV.toD, AC.toD, AV.nw, AC.nw, AC.one, Value.oneCell', fillA, D.one, D.ones, D.sz, D.szs, Nat.reduceAdd, Nat.reduceSub, Nat.reduceLeDiff, Nat.reduceEqDiff, reduceIte, pkN, pkF, htl, hcl, hrl]) | (first | (with_reducible rfl) | (with_reducible refine fnok_id ?_; kernel_rfl) | exact el_strs _ | exact el_ints _ | exact el_ln _ | exact el_tk _ _ | exact el_td _ _ _ | omega | (simp; done) | (simp; omega)) | ((with_reducible refine args_id ?_); simp [ArgsOk, ArgOk, argsD, argD, AC.toD, Value.oneCell', sl_flat, leaf_flat, li_flat, ls_flat, sl_agg, leaf_agg, li_agg, ls_agg, mo_t, mo_f, pkF, htl, hcl, hrl]; first | done | rfl))
  refine awp_loopB (X := Nat × Nat) (fun q => [.k, .k, .d, .d, .d, .d, .d, .k, .k, .d, .v (.c false [.own 1 q.2]), .d, .d, .d, .d, .d, .d, .d, .d, .d, .d, .d, .d, .d, .d, .d, .d, .d, .d, .d, .d, .d, .d, .d, .d, .d, .d, .d, .d, .d, .d, .d, .d, .d, .d, .d, .d, .d, .d, .d, .d, .d, .d, .d, .d, .d, .d, .d, .d, .d, .d, .d, .d, .d, .d, .d, .d, .d, .d, .d, .d, .d, .d, .d, .d, .d, .d, .d, .d, .d, .d, .d, .d, .d, .d, .d, .d, .d, .d, .d, .d, .d]) (fun q => [⟨runL l, 4, 1, 0, true⟩, ⟨(runIt l q.1).map li, 3, 1, q.2, true⟩]) (fun q bs => bs) (fun q => (runIt l q.1).length = q.1 ∧ okTo (runB l) (metB l) (runIt l q.1) (runIt l q.1).length = true) (fun q => l.length - q.1) (0, 0) ⟨rfl, rfl⟩ ?_ ?_
  · simp [StLe', FrLe, OwnLe, BoxLe, AV.fits, AC.fits, FB, mask, runIt]
  rintro ⟨j, v⟩ ⟨hj, hok⟩
  simp only at hj hok
  have hjn := okTo_n hok
  simp only [FB, mask]
  have hcle := cntR_le l l.length
  by_cases hmo : j < cntR l l.length
  · have hmore := run_more (l := l) (j := j) (by omega)
    have hsome := fun k => runIt_some (l := l) (j := j) (k := k)
    obtain ⟨o, ho⟩ : ∃ o, runIt l j = o := ⟨_, rfl⟩
    rw [ho] at hj hok hjn hmore
    simp only [ho] at hsome ⊢
    repeat' (first | (with_reducible first | refine awp_seq ?_ | refine awp_block ?_ | refine awp_skip ?_ | refine awp_exit ?_ | refine awp_ret ?_ | refine athen ?_ | refine thenExit ?_ | refine thenRet ?_ | refine blockNormal ?_ | refine blockExit ?_ | refine blockRet ?_ | refine roundExit ?_ | refine roundRet ?_ | refine roundExitR ?_ | refine roundRetR ?_) | ((with_reducible refine blockPass ?_ ?_); rfl) | ((with_reducible refine awp_condT ?_ ?_); rfl) | ((with_reducible refine awp_condF ?_ ?_); rfl) | (with_reducible (refine awp_condS rfl ?_ ?_); all_goals (intro hb; have hb' := hb; (try simp only [pkC] at hb'); first | (exfalso; omega) | skip)) | ((with_reducible refine awp_reg ?_); intro K hK) | ((with_reducible refine sw_guardT ?_ ?_); rfl) | ((with_reducible refine sw_guardF ?_ ?_); (rfl; try simp only [St.put, undef, pkA, Nat.reduceAdd, Nat.reduceSub, Nat.reduceLeDiff, Nat.reduceEqDiff])) | (with_reducible (refine sw_guardS rfl ?_ ?_); all_goals (intro hb; have hb' := hb; (try simp only [pkC] at hb'); first | (exfalso; omega) | skip)) | ((with_reducible refine hK _ ?_); clear hK K) | (with_reducible refine and_split ?_ ?_) | ((with_reducible refine sw_id ?_); simp (disch := first | decide | omega) only [↓pkS, pkW, pkA, undef, capsOf, ex, St.put, St.ev, kav, gdA, opI, rawI, vbin, srcOf, avsD, acsD, AV.toD, AC.toD, AV.nw, AC.nw, AC.one, Value.oneCell', fillA, D.one, D.ones, D.sz, D.szs, Nat.reduceAdd, Nat.reduceSub, Nat.reduceLeDiff, Nat.reduceEqDiff, reduceIte, pkN, pkF, hj]) | (first | (with_reducible rfl) | (with_reducible refine fnok_id ?_; kernel_rfl) | exact el_strs _ | exact el_ints _ | exact el_ln _ | exact el_tk _ _ | exact el_td _ _ _ | omega | (simp; done) | (simp; omega)) | ((with_reducible refine args_id ?_); simp [ArgsOk, ArgOk, argsD, argD, AC.toD, Value.oneCell', sl_flat, leaf_flat, li_flat, ls_flat, sl_agg, leaf_agg, li_agg, ls_agg, mo_t, mo_f, pkF, hj]; first | done | rfl))
    refine awp_loopB (X := Nat) (fun q => [.k, .k, .d, .d, .d, .d, .d, .k, .k, .d, .v (.c false [.own 1 v]), .v (.c false [.raw (.int .i64 (q : Nat))]), .d, .d, .d, .d, .d, .d, .d, .d, .d, .d, .d, .d, .d, .d, .d, .d, .d, .d, .d, .d, .d, .d, .d, .d, .d, .d, .d, .d, .d, .d, .d, .d, .d, .d, .d, .d, .d, .d, .d, .d, .d, .d, .d, .d, .d, .d, .d, .d, .d, .d, .d, .d, .d, .d, .d, .d, .d, .d, .d, .d, .d, .d, .d, .d, .d, .d, .d, .d, .d, .d, .d, .d, .d, .d, .d, .d, .d, .d, .d, .d]) (fun q => [⟨runL l, 4, 1, 0, true⟩, ⟨o.map li, 3, 1, v, true⟩]) (fun q bs => bs) (fun q => q ≤ l.length ∧ ∀ m, m < q → okR l o m = false) (fun q => l.length - q) 0 ⟨Nat.zero_le _, fun m hm => by omega⟩ ?_ ?_
    · simp [StLe', FrLe, OwnLe, BoxLe, AV.fits, AC.fits, FB, mask]
    rintro k ⟨hk, hno⟩
    simp only [FB, mask]
    by_cases hlt : k < l.length
    · have hrk := runL_at l hlt
      have htk := tblTo_at l hlt
      have hhz := l1HasIntZ_to o ((k : Nat) : Int) (by omega)
      have hdl := du_len l k
      have hrd := ready_to l (du l k) o (du_lt l k) (by omega) (by omega)
      have hex : okR l o k = (!hasZ o (k : Int) && runB l (k : Int) && rdy l o (du l k)) := by unfold okR rdy; rw [rdy_eq]
      cases h1 : runB l (k : Int) with
      | false =>
        rw [h1] at hrk
        have hnn := okR_next hno (by rw [hex, h1]; simp)
        repeat' (first | (with_reducible first | refine awp_seq ?_ | refine awp_block ?_ | refine awp_skip ?_ | refine awp_exit ?_ | refine awp_ret ?_ | refine athen ?_ | refine thenExit ?_ | refine thenRet ?_ | refine blockNormal ?_ | refine blockExit ?_ | refine blockRet ?_ | refine roundExit ?_ | refine roundRet ?_ | refine roundExitR ?_ | refine roundRetR ?_) | ((with_reducible refine blockPass ?_ ?_); rfl) | ((with_reducible refine awp_condT ?_ ?_); rfl) | ((with_reducible refine awp_condF ?_ ?_); rfl) | (with_reducible (refine awp_condS rfl ?_ ?_); all_goals (intro hb; have hb' := hb; (try simp only [pkC] at hb'); first | (exfalso; omega) | skip)) | ((with_reducible refine awp_reg ?_); intro K hK) | ((with_reducible refine sw_guardT ?_ ?_); rfl) | ((with_reducible refine sw_guardF ?_ ?_); (rfl; try simp only [St.put, undef, pkA, Nat.reduceAdd, Nat.reduceSub, Nat.reduceLeDiff, Nat.reduceEqDiff])) | (with_reducible (refine sw_guardS rfl ?_ ?_); all_goals (intro hb; have hb' := hb; (try simp only [pkC] at hb'); first | (exfalso; omega) | skip)) | ((with_reducible refine hK _ ?_); clear hK K) | (with_reducible refine and_split ?_ ?_) | ((with_reducible refine ct_id ?_); first | (refine callThen hhz trivial ?_ ?_) | (refine callThen hrd trivial ?_ ?_)) | ((with_reducible refine ctd_id ?_); first | (refine callThenD hhz trivial ?_ ?_) | (refine callThenD hrd trivial ?_ ?_)) | ((with_reducible refine sw_id ?_); simp (disch := first | decide | omega) only [↓pkS, pkW, pkA, undef, capsOf, ex, St.put, St.ev, kav, gdA, opI, rawI, vbin, srcOf, avsD, acsD, AV.toD, AC.toD, AV.nw, AC.nw, AC.one, Value.oneCell', fillA, D.one, D.ones, D.sz, D.szs, Nat.reduceAdd, Nat.reduceSub, Nat.reduceLeDiff, Nat.reduceEqDiff, reduceIte, pkN, pkF, h1, hrk, htk, runL_g, tblTo_g]) | (first | (with_reducible rfl) | (with_reducible refine fnok_id ?_; kernel_rfl) | exact el_strs _ | exact el_ints _ | exact el_ln _ | exact el_tk _ _ | exact el_td _ _ _ | omega | (simp; done) | (simp; omega)) | ((with_reducible refine args_id ?_); simp [ArgsOk, ArgOk, argsD, argD, AC.toD, Value.oneCell', sl_flat, leaf_flat, li_flat, ls_flat, sl_agg, leaf_agg, li_agg, ls_agg, mo_t, mo_f, pkF, h1, hrk, htk, runL_g, tblTo_g]; first | done | rfl))
        all_goals first
          | exact runL_el _
          | exact tblTo_el _ _
          | (refine roundB (k + 1) ?_ ⟨by omega, hnn⟩ (show l.length - (k + 1) < l.length - k by omega)
             simp [StLe', FrLe, OwnLe, BoxLe, AV.fits, AC.fits, FB, mask])
      | true =>
        rw [h1] at hrk
        cases h2 : hasZ o (k : Int) with
        | true =>
          rw [h2] at hhz
          have hnn := okR_next hno (by rw [hex, h1, h2]; simp)
          repeat' (first | (with_reducible first | refine awp_seq ?_ | refine awp_block ?_ | refine awp_skip ?_ | refine awp_exit ?_ | refine awp_ret ?_ | refine athen ?_ | refine thenExit ?_ | refine thenRet ?_ | refine blockNormal ?_ | refine blockExit ?_ | refine blockRet ?_ | refine roundExit ?_ | refine roundRet ?_ | refine roundExitR ?_ | refine roundRetR ?_) | ((with_reducible refine blockPass ?_ ?_); rfl) | ((with_reducible refine awp_condT ?_ ?_); rfl) | ((with_reducible refine awp_condF ?_ ?_); rfl) | (with_reducible (refine awp_condS rfl ?_ ?_); all_goals (intro hb; have hb' := hb; (try simp only [pkC] at hb'); first | (exfalso; omega) | skip)) | ((with_reducible refine awp_reg ?_); intro K hK) | ((with_reducible refine sw_guardT ?_ ?_); rfl) | ((with_reducible refine sw_guardF ?_ ?_); (rfl; try simp only [St.put, undef, pkA, Nat.reduceAdd, Nat.reduceSub, Nat.reduceLeDiff, Nat.reduceEqDiff])) | (with_reducible (refine sw_guardS rfl ?_ ?_); all_goals (intro hb; have hb' := hb; (try simp only [pkC] at hb'); first | (exfalso; omega) | skip)) | ((with_reducible refine hK _ ?_); clear hK K) | (with_reducible refine and_split ?_ ?_) | ((with_reducible refine ct_id ?_); first | (refine callThen hhz trivial ?_ ?_) | (refine callThen hrd trivial ?_ ?_)) | ((with_reducible refine ctd_id ?_); first | (refine callThenD hhz trivial ?_ ?_) | (refine callThenD hrd trivial ?_ ?_)) | ((with_reducible refine sw_id ?_); simp (disch := first | decide | omega) only [↓pkS, pkW, pkA, undef, capsOf, ex, St.put, St.ev, kav, gdA, opI, rawI, vbin, srcOf, avsD, acsD, AV.toD, AC.toD, AV.nw, AC.nw, AC.one, Value.oneCell', fillA, D.one, D.ones, D.sz, D.szs, Nat.reduceAdd, Nat.reduceSub, Nat.reduceLeDiff, Nat.reduceEqDiff, reduceIte, pkN, pkF, h1, h2, hrk, htk, runL_g, tblTo_g]) | (first | (with_reducible rfl) | (with_reducible refine fnok_id ?_; kernel_rfl) | exact el_strs _ | exact el_ints _ | exact el_ln _ | exact el_tk _ _ | exact el_td _ _ _ | omega | (simp; done) | (simp; omega)) | ((with_reducible refine args_id ?_); simp [ArgsOk, ArgOk, argsD, argD, AC.toD, Value.oneCell', sl_flat, leaf_flat, li_flat, ls_flat, sl_agg, leaf_agg, li_agg, ls_agg, mo_t, mo_f, pkF, h1, h2, hrk, htk, runL_g, tblTo_g]; first | done | rfl))
          all_goals first
            | exact runL_el _
            | exact tblTo_el _ _
            | (refine roundB (k + 1) ?_ ⟨by omega, hnn⟩ (show l.length - (k + 1) < l.length - k by omega)
               simp [StLe', FrLe, OwnLe, BoxLe, AV.fits, AC.fits, FB, mask])
        | false =>
          rw [h2] at hhz
          cases h3 : rdy l o (du l k) with
          | false =>
            rw [h3] at hrd
            have hnn := okR_next hno (by rw [hex, h1, h2, h3]; simp)
            repeat' (first | (with_reducible first | refine awp_seq ?_ | refine awp_block ?_ | refine awp_skip ?_ | refine awp_exit ?_ | refine awp_ret ?_ | refine athen ?_ | refine thenExit ?_ | refine thenRet ?_ | refine blockNormal ?_ | refine blockExit ?_ | refine blockRet ?_ | refine roundExit ?_ | refine roundRet ?_ | refine roundExitR ?_ | refine roundRetR ?_) | ((with_reducible refine blockPass ?_ ?_); rfl) | ((with_reducible refine awp_condT ?_ ?_); rfl) | ((with_reducible refine awp_condF ?_ ?_); rfl) | (with_reducible (refine awp_condS rfl ?_ ?_); all_goals (intro hb; have hb' := hb; (try simp only [pkC] at hb'); first | (exfalso; omega) | skip)) | ((with_reducible refine awp_reg ?_); intro K hK) | ((with_reducible refine sw_guardT ?_ ?_); rfl) | ((with_reducible refine sw_guardF ?_ ?_); (rfl; try simp only [St.put, undef, pkA, Nat.reduceAdd, Nat.reduceSub, Nat.reduceLeDiff, Nat.reduceEqDiff])) | (with_reducible (refine sw_guardS rfl ?_ ?_); all_goals (intro hb; have hb' := hb; (try simp only [pkC] at hb'); first | (exfalso; omega) | skip)) | ((with_reducible refine hK _ ?_); clear hK K) | (with_reducible refine and_split ?_ ?_) | ((with_reducible refine ct_id ?_); first | (refine callThen hhz trivial ?_ ?_) | (refine callThen hrd trivial ?_ ?_)) | ((with_reducible refine ctd_id ?_); first | (refine callThenD hhz trivial ?_ ?_) | (refine callThenD hrd trivial ?_ ?_)) | ((with_reducible refine sw_id ?_); simp (disch := first | decide | omega) only [↓pkS, pkW, pkA, undef, capsOf, ex, St.put, St.ev, kav, gdA, opI, rawI, vbin, srcOf, avsD, acsD, AV.toD, AC.toD, AV.nw, AC.nw, AC.one, Value.oneCell', fillA, D.one, D.ones, D.sz, D.szs, Nat.reduceAdd, Nat.reduceSub, Nat.reduceLeDiff, Nat.reduceEqDiff, reduceIte, pkN, pkF, h1, h2, h3, hrk, htk, runL_g, tblTo_g]) | (first | (with_reducible rfl) | (with_reducible refine fnok_id ?_; kernel_rfl) | exact el_strs _ | exact el_ints _ | exact el_ln _ | exact el_tk _ _ | exact el_td _ _ _ | omega | (simp; done) | (simp; omega)) | ((with_reducible refine args_id ?_); simp [ArgsOk, ArgOk, argsD, argD, AC.toD, Value.oneCell', sl_flat, leaf_flat, li_flat, ls_flat, sl_agg, leaf_agg, li_agg, ls_agg, mo_t, mo_f, pkF, h1, h2, h3, hrk, htk, runL_g, tblTo_g]; first | done | rfl))
            all_goals first
              | exact runL_el _
              | exact tblTo_el _ _
              | (refine roundB (k + 1) ?_ ⟨by omega, hnn⟩ (show l.length - (k + 1) < l.length - k by omega)
                 simp [StLe', FrLe, OwnLe, BoxLe, AV.fits, AC.fits, FB, mask])
          | true =>
            rw [h3] at hrd
            have hx : okR l o k = true := by rw [hex, h1, h2, h3]; rfl
            have hs := hsome k (nxt_some hlt hx hno)
            have hadd := okTo_add hok hx
            repeat' (first | (with_reducible first | refine awp_seq ?_ | refine awp_block ?_ | refine awp_skip ?_ | refine awp_exit ?_ | refine awp_ret ?_ | refine athen ?_ | refine thenExit ?_ | refine thenRet ?_ | refine blockNormal ?_ | refine blockExit ?_ | refine blockRet ?_ | refine roundExit ?_ | refine roundRet ?_ | refine roundExitR ?_ | refine roundRetR ?_) | ((with_reducible refine blockPass ?_ ?_); rfl) | ((with_reducible refine awp_condT ?_ ?_); rfl) | ((with_reducible refine awp_condF ?_ ?_); rfl) | (with_reducible (refine awp_condS rfl ?_ ?_); all_goals (intro hb; have hb' := hb; (try simp only [pkC] at hb'); first | (exfalso; omega) | skip)) | ((with_reducible refine awp_reg ?_); intro K hK) | ((with_reducible refine sw_guardT ?_ ?_); rfl) | ((with_reducible refine sw_guardF ?_ ?_); (rfl; try simp only [St.put, undef, pkA, Nat.reduceAdd, Nat.reduceSub, Nat.reduceLeDiff, Nat.reduceEqDiff])) | (with_reducible (refine sw_guardS rfl ?_ ?_); all_goals (intro hb; have hb' := hb; (try simp only [pkC] at hb'); first | (exfalso; omega) | skip)) | ((with_reducible refine hK _ ?_); clear hK K) | (with_reducible refine and_split ?_ ?_) | ((with_reducible refine ct_id ?_); first | (refine callThen hhz trivial ?_ ?_) | (refine callThen hrd trivial ?_ ?_)) | ((with_reducible refine ctd_id ?_); first | (refine callThenD hhz trivial ?_ ?_) | (refine callThenD hrd trivial ?_ ?_)) | ((with_reducible refine sw_id ?_); simp (disch := first | decide | omega) only [↓pkS, pkW, pkA, undef, capsOf, ex, St.put, St.ev, kav, gdA, opI, rawI, vbin, srcOf, avsD, acsD, AV.toD, AC.toD, AV.nw, AC.nw, AC.one, Value.oneCell', fillA, D.one, D.ones, D.sz, D.szs, Nat.reduceAdd, Nat.reduceSub, Nat.reduceLeDiff, Nat.reduceEqDiff, reduceIte, pkN, pkF, h1, hrk, htk, runL_g, tblTo_g]) | (first | (with_reducible rfl) | (with_reducible refine fnok_id ?_; kernel_rfl) | exact el_strs _ | exact el_ints _ | exact el_ln _ | exact el_tk _ _ | exact el_td _ _ _ | omega | (simp; done) | (simp; omega)) | ((with_reducible refine args_id ?_); simp [ArgsOk, ArgOk, argsD, argD, AC.toD, Value.oneCell', sl_flat, leaf_flat, li_flat, ls_flat, sl_agg, leaf_agg, li_agg, ls_agg, mo_t, mo_f, pkF, h1, hrk, htk, runL_g, tblTo_g]; first | done | rfl))
            all_goals first
              | exact runL_el _
              | exact tblTo_el _ _
              | (simp only [List.length_map, List.length_append, List.length_cons, List.length_nil]; omega)
              | (refine roundB (j + 1, v + 1) ?_ ⟨by simp only [hs]; simp; omega, by simp only [hs]; exact hadd⟩ (show l.length - (j + 1) < l.length - j by omega)
                 simp [StLe', FrLe, OwnLe, BoxLe, AV.fits, AC.fits, FB, mask, hs, li])
    · obtain rfl : k = l.length := by omega
      exact absurd (nxt_none.2 hno) hmore
  · have hfin := run_done hok hj hmo
    rw [hfin] at hj ⊢
    repeat' (first | (with_reducible first | refine awp_seq ?_ | refine awp_block ?_ | refine awp_skip ?_ | refine awp_exit ?_ | refine awp_ret ?_ | refine athen ?_ | refine thenExit ?_ | refine thenRet ?_ | refine blockNormal ?_ | refine blockExit ?_ | refine blockRet ?_ | refine roundExit ?_ | refine roundRet ?_ | refine roundExitR ?_ | refine roundRetR ?_) | ((with_reducible refine blockPass ?_ ?_); rfl) | ((with_reducible refine awp_condT ?_ ?_); rfl) | ((with_reducible refine awp_condF ?_ ?_); rfl) | (with_reducible (refine awp_condS rfl ?_ ?_); all_goals (intro hb; have hb' := hb; (try simp only [pkC] at hb'); first | (exfalso; omega) | skip)) | ((with_reducible refine awp_reg ?_); intro K hK) | ((with_reducible refine sw_guardT ?_ ?_); rfl) | ((with_reducible refine sw_guardF ?_ ?_); (rfl; try simp only [St.put, undef, pkA, Nat.reduceAdd, Nat.reduceSub, Nat.reduceLeDiff, Nat.reduceEqDiff])) | (with_reducible (refine sw_guardS rfl ?_ ?_); all_goals (intro hb; have hb' := hb; (try simp only [pkC] at hb'); first | (exfalso; omega) | skip)) | ((with_reducible refine hK _ ?_); clear hK K) | (with_reducible refine and_split ?_ ?_) | ((with_reducible refine sw_id ?_); simp (disch := first | decide | omega) only [↓pkS, pkW, pkA, undef, capsOf, ex, St.put, St.ev, kav, gdA, opI, rawI, vbin, srcOf, avsD, acsD, AV.toD, AC.toD, AV.nw, AC.nw, AC.one, Value.oneCell', fillA, D.one, D.ones, D.sz, D.szs, Nat.reduceAdd, Nat.reduceSub, Nat.reduceLeDiff, Nat.reduceEqDiff, reduceIte, pkN, pkF, hj]) | (first | (with_reducible rfl) | (with_reducible refine fnok_id ?_; kernel_rfl) | exact el_strs _ | exact el_ints _ | exact el_ln _ | exact el_tk _ _ | exact el_td _ _ _ | omega | (simp; done) | (simp; omega)) | ((with_reducible refine args_id ?_); simp [ArgsOk, ArgOk, argsD, argD, AC.toD, Value.oneCell', sl_flat, leaf_flat, li_flat, ls_flat, sl_agg, leaf_agg, li_agg, ls_agg, mo_t, mo_f, pkF, hj]; first | done | rfl))
    exact endRet ⟨1, _, _, rfl, rfl, rfl, rfl, rfl, rfl, Or.inl rfl⟩
def ic_ordS : IC := (.seq (.reg false [⟨(some 2), none, .mov (.k (.slice none 0 0))⟩]) (.seq (.reg false [⟨(some 4), none, .mov (.t 0)⟩, ⟨(some 5), none, .call 14 [(.t 4)]⟩, ⟨(some 3), none, .mov (.t 5)⟩]) (.seq (.reg false [⟨(some 6), none, .mov (.t 0)⟩, ⟨(some 7), none, .mov (.t 3)⟩, ⟨(some 8), none, .mov (.t 3)⟩, ⟨(some 9), none, .call 16 [(.t 8)]⟩, ⟨(some 10), none, .call 15 [(.t 6), (.t 7), (.t 9)]⟩, ⟨(some 2), none, .mov (.t 10)⟩]) .ret)))
theorem ic_ordS_ok : compC Tryz.prog (Tryz.f5.body.getD .skip) = some ic_ordS := by kernel_rfl
set_option maxHeartbeats 4000000 in
theorem runOrder_spec_to (l : List GPart) (hw : l.length + D.wts (l.map GPart.toD) ≤ 1048576) : CallsOwn Tryz.prog 5 [.sl (l.map GPart.toD)] ((ordL l).map li) 3 1 := by
  have h1 := l23Table_to l hw
  have h2 := l24Cyclic_to l hw
  have h3 := l25Order_to l hw
  refine calls_own (fn := Tryz.f5) (t := 2) (by kernel_rfl) (by kernel_rfl) (by kernel_rfl) ic_ordS_ok ?_
  unfold ic_ordS
  change AWP _ _ _ (st0 11 _)
  simp only [undef, stS, st0, stN, D.av, D.avN, sl_agg, leaf_agg, li_agg, ls_agg, sl_acs, leaf_acs, li_acs, ls_acs, ln_acs, el_ln, getq_map, GPart.acs_eq, GPart.flat_eq, GPart.agg_eq, GPart.el, List.map_cons, List.map_nil, List.replicate, List.cons_append, List.nil_append, List.length_cons, List.length_nil, Nat.reduceAdd, Nat.reduceSub]
  repeat' (first | (with_reducible first | refine awp_seq ?_ | refine awp_block ?_ | refine awp_skip ?_ | refine awp_exit ?_ | refine awp_ret ?_ | refine athen ?_ | refine thenExit ?_ | refine thenRet ?_ | refine blockNormal ?_ | refine blockExit ?_ | refine blockRet ?_ | refine roundExit ?_ | refine roundRet ?_ | refine roundExitR ?_ | refine roundRetR ?_) | ((with_reducible refine blockPass ?_ ?_); rfl) | ((with_reducible refine awp_condT ?_ ?_); rfl) | ((with_reducible refine awp_condF ?_ ?_); rfl) | (with_reducible (refine awp_condS rfl ?_ ?_); all_goals (intro hb; have hb' := hb; (try simp only [pkC] at hb'); first | (exfalso; omega) | skip)) | ((with_reducible refine awp_reg ?_); intro K hK) | ((with_reducible refine hK _ ?_); clear hK K) | (with_reducible refine and_split ?_ ?_) | ((with_reducible refine ct_id ?_); first | (refine callOwn h1 (tblTo_el _ _) ?_ ?_) | (refine callOwn h2 (cycL_el _) ?_ ?_) | (refine callOwn h3 (el_ints _) ?_ ?_)) | ((with_reducible refine sw_id ?_); simp (disch := first | decide | omega) only [↓pkS, pkW, pkA, undef, capsOf, ex, St.put, St.ev, kav, gdA, opI, rawI, vbin, srcOf, avsD, acsD, AV.toD, AC.toD, AV.nw, AC.nw, AC.one, Value.oneCell', fillA, D.one, D.ones, D.sz, D.szs, Nat.reduceAdd, Nat.reduceSub, Nat.reduceLeDiff, Nat.reduceEqDiff, reduceIte, pkN, pkF, tblTo_len]) | (first | (with_reducible rfl) | (with_reducible refine fnok_id ?_; kernel_rfl) | exact el_strs _ | exact el_ints _ | exact el_ln _ | exact el_tk _ _ | exact el_td _ _ _ | omega | (simp; done) | (simp; omega)) | ((with_reducible refine args_id ?_); simp [ArgsOk, ArgOk, argsD, argD, AC.toD, Value.oneCell', sl_flat, leaf_flat, li_flat, ls_flat, sl_agg, leaf_agg, li_agg, ls_agg, mo_t, mo_f, pkF, tblTo_len]; first | done | rfl))
  exact endRet ⟨2, _, _, rfl, rfl, rfl, rfl, rfl, rfl, Or.inl rfl⟩
theorem runOrder_spec (l : List GPart) (r : List Int) (hr : ordL l = r) (fp : List Nat) (v : Value) (w : World) (hS : Sl w (l.map GPart.toD) fp v) (hw : l.length + D.wts (l.map GPart.toD) ≤ 1048576) : Calls Tryz.prog 5 #[v] w (TosPost (r.map li) w) := by
  subst hr
  exact of_own (runOrder_spec_to l hw) (flat_ints _) (vs := [v]) ⟨rd_of_sl hS, trivial⟩
theorem runOrder_impl (l : List GPart) (r : List Int) (hr : ordL l = r) (fp : List Nat) (v : Value) (w : World) (hS : Sl w (l.map GPart.toD) fp v) (hw : l.length + D.wts (l.map GPart.toD) ≤ 1048576) : Calls Tryz.prog 7 #[v] w (TosPost (r.map li) w) := by
  subst hr
  exact of_own (runOrder_impl_to l hw) (flat_ints _) (vs := [v]) ⟨rd_of_sl hS, trivial⟩
end Go.Proofs.YtnfamcepojpkjaaGreat
