/-
  Numerals, joined strings: both packages.
-/
import Derived.Test.YtdjcflnemnknaaaDoorNames
import Derived.Test.YtdjcflnemnknaaaDoorIrG
import Derived.Test.YtdjcflnemnknaaaDoorIrR
import Derived.Test.YtdjcflnemnknaaaDoorShelf
import Derived.Lib.AppendIntMem
import Derived.Lib.ItoaLen
namespace Go.Proofs.YtdjcflnemnknaaaDoor
open Go.RowKit
set_option linter.unusedSimpArgs false
set_option linter.unusedVariables false
/-- The numeral of an int. -/
def fmtI (n : Int) : ByteArray := ⟨(Lib.itoa n).toArray⟩
theorem fmtI_len {n : Int} (h0 : -9223372036854775808 ≤ n) (h1 : n ≤ 9223372036854775807) : (fmtI n).size ≤ 21 := by
  have := Lib.itoa_length_le n h0 h1
  simpa [fmtI, ByteArray.size] using this
theorem itoa_to {n : Int} (h0 : -9223372036854775808 ≤ n) (h1 : n ≤ 9223372036854775807) : CallsTo Tryd.prog 74 [li n] (.c false [.raw (.string (fmtI n))]) := to_retBT fun w vs hr ht => by
  obtain ⟨v, rfl, hv⟩ := rds1 hr
  obtain rfl := rd_leaf hv
  exact (Tryd.strconv_Itoa n h0 h1 w ht).mono fun e w' ⟨he, k, os, hw⟩ => ⟨he, by subst hw; exact Lib.below_grow _ w (Nat.le_refl _) k os⟩
theorem dd_big {u : Nat} (h : ¬ u < 10) : Lib.decDigits u = Lib.decDigits (u / 10) ++ [UInt8.ofNat (48 + u % 10)] := by
  rw [Lib.decDigits, dif_neg h]
theorem dd_len {u : Nat} (h : u ≤ 9223372036854775808) : (Lib.decDigits u).length ≤ 21 := by
  by_cases h0 : u = 0
  · subst h0; rw [Lib.decDigits_one (by decide)]; decide
  · have := Lib.itoa_length_le (-(u : Int)) (by omega) (by omega)
    rw [Lib.itoa_neg u (by omega)] at this
    simp at this
    omega
/-- What spec.FormatInt keeps. -/
def FmtInv (n0 n : Int) (o : List UInt8) : Prop := n.natAbs ≤ n0.natAbs ∧ (0 ≤ n0 → 0 ≤ n) ∧ (n0 ≤ 0 → n ≤ 0) ∧ (if n = 0 then o = Lib.decDigits n0.natAbs else Lib.decDigits n.natAbs ++ o = Lib.decDigits n0.natAbs)
theorem FmtInv.start {n0 : Int} (h : n0 ≠ 0) : FmtInv n0 n0 [] := ⟨Nat.le_refl _, id, id, by rw [if_neg h, List.append_nil]⟩
theorem FmtInv.len {n0 n : Int} {o : List UInt8} (h : FmtInv n0 n o) (hb : n0.natAbs ≤ 9223372036854775808) : o.length ≤ 21 := by
  have hl := dd_len hb
  obtain ⟨_, _, _, h⟩ := h
  split at h
  · rw [h]; exact hl
  · rw [← h, List.length_append] at hl; omega
theorem tdiv_abs (n : Int) : (n.tdiv 10).natAbs = n.natAbs / 10 := by rw [Int.natAbs_tdiv]; rfl
theorem tdiv_sgn (n : Int) : (0 ≤ n → 0 ≤ n.tdiv 10) ∧ (n ≤ 0 → n.tdiv 10 ≤ 0) := by
  refine ⟨fun h => Int.tdiv_nonneg h (by decide), fun h => ?_⟩
  have := Int.tdiv_nonneg (a := -n) (b := 10) (by omega) (by decide)
  rw [Int.neg_tdiv] at this
  omega
theorem FmtInv.go {n0 n : Int} {o : List UInt8} (h : FmtInv n0 n o) (hn : n ≠ 0) : FmtInv n0 (n.tdiv 10) (UInt8.ofNat (48 + n.natAbs % 10) :: o) := by
  obtain ⟨h1, h2, h3, h4⟩ := h
  rw [if_neg hn] at h4
  have ha := tdiv_abs n
  have hsg := tdiv_sgn n
  refine ⟨by omega, fun hp => ?_, fun hp => ?_, ?_⟩
  · have := h2 hp; omega
  · have := h3 hp; omega
  · by_cases hs : n.natAbs < 10
    · have hz : n.tdiv 10 = 0 := by omega
      rw [if_pos hz, ← h4, Lib.decDigits_one hs, Nat.mod_eq_of_lt hs]
      rfl
    · have hz : n.tdiv 10 ≠ 0 := by omega
      rw [if_neg hz, ← h4, dd_big hs, ha]
      simp
theorem FmtInv.fin {n0 : Int} {o : List UInt8} (h : FmtInv n0 0 o) : o = Lib.decDigits n0.natAbs := by
  obtain ⟨_, _, _, h⟩ := h
  simpa using h
theorem fmtI_pos {n : Int} (h : 0 ≤ n) : fmtI n = ⟨(Lib.decDigits n.natAbs).toArray⟩ := by
  unfold fmtI Lib.itoa
  rw [if_neg (by omega)]
  have e : n.toNat = n.natAbs := by omega
  rw [e]
theorem fmtI_neg {n : Int} (h : n < 0) : fmtI n = ⟨(45 :: Lib.decDigits n.natAbs).toArray⟩ := by
  unfold fmtI Lib.itoa
  rw [if_pos h]
theorem ba_app (a b : List UInt8) : (⟨a.toArray⟩ : ByteArray) ++ ⟨b.toArray⟩ = ⟨(a ++ b).toArray⟩ := by
  apply ByteArray.ext
  simp
theorem u8_wrap {d : Int} (h0 : 0 ≤ d) (h1 : d ≤ 255) : IntKind.u8.wrap d = d := by
  simp [IntKind.wrap, IntKind.signed, IntKind.bits]
  omega
def ic_fmt_impl : IC := (.seq (.reg false [⟨(some 2), none, .mov (.k (.string ⟨#[]⟩))⟩]) (.seq (.reg false [⟨(some 3), none, .mov (.t 0)⟩, ⟨(some 4), none, .call 74 [(.t 3)]⟩, ⟨(some 2), none, .mov (.t 4)⟩]) .ret))
theorem ic_fmt_impl_ok : compC Tryd.prog (Tryd.f36.body.getD .skip) = some ic_fmt_impl := by kernel_rfl
theorem formatInt_impl_to {n : Int} (h0 : -9223372036854775808 ≤ n) (h1 : n ≤ 9223372036854775807) : CallsTo Tryd.prog 36 [li n] (.c false [.raw (.string (fmtI n))]) := by
  refine calls_one (fn := Tryd.f36) (t := 2) (by kernel_rfl) (by kernel_rfl) (by kernel_rfl) ic_fmt_impl_ok ?_
  unfold ic_fmt_impl
  change AWP _ _ _ (st0 5 _)
  simp only [undef, stS, st0, stN, D.av, D.avN, sl_agg, leaf_agg, li_agg, ls_agg, sl_acs, leaf_acs, li_acs, ls_acs, List.map_cons, List.map_nil, List.replicate, List.cons_append, List.nil_append, List.length_cons, List.length_nil, Nat.reduceAdd, Nat.reduceSub]
  have hi := itoa_to h0 h1
  repeat' (first | (with_reducible first | refine awp_seq ?_ | refine awp_block ?_ | refine awp_skip ?_ | refine awp_exit ?_ | refine awp_ret ?_ | refine athen ?_ | refine thenExit ?_ | refine thenRet ?_ | refine blockNormal ?_ | refine blockExit ?_ | refine blockRet ?_ | refine roundExit ?_ | refine roundRet ?_ | refine roundExitR ?_ | refine roundRetR ?_) | ((with_reducible refine blockPass ?_ ?_); rfl) | ((with_reducible refine awp_condT ?_ ?_); rfl) | ((with_reducible refine awp_condF ?_ ?_); rfl) | (with_reducible (refine awp_condS rfl ?_ ?_); all_goals (intro hb; have hb' := hb; (try simp only [pkC] at hb'); first | (exfalso; omega) | skip)) | ((with_reducible refine awp_reg ?_); intro K hK) | ((with_reducible refine hK _ ?_); clear hK K) | (with_reducible refine and_split ?_ ?_) | ((with_reducible refine ct_id ?_); first | (refine callThen hi trivial ?_ ?_)) | ((with_reducible refine ctd_id ?_); first | (refine callThenD hi trivial ?_ ?_)) | ((with_reducible refine sw_id ?_); simp (disch := first | decide | omega) only [↓pkS, pkW, pkA, undef, capsOf, ex, St.put, St.ev, kav, gdA, opI, rawI, vbin, srcOf, avsD, acsD, AV.toD, AC.toD, AV.nw, AC.nw, AC.one, Value.oneCell', fillA, D.one, D.ones, D.sz, D.szs, Nat.reduceAdd, Nat.reduceSub, Nat.reduceLeDiff, Nat.reduceEqDiff, reduceIte, pkN, li_acs, ls_acs]) | (first | (with_reducible rfl) | (with_reducible refine fnok_id ?_; kernel_rfl) | exact el_strs _ | exact el_ints _ | exact el_ln _ | exact el_tk _ _ | exact el_td _ _ _ | omega | (simp; done) | (simp; omega)) | ((with_reducible refine args_id ?_); simp [ArgsOk, ArgOk, argsD, argD, AC.toD, Value.oneCell', sl_flat, leaf_flat, li_flat, ls_flat, sl_agg, leaf_agg, li_agg, ls_agg, mo_t, mo_f, li_acs, ls_acs]; first | done | rfl))
  exact endRet ⟨_, rfl, rfl, trivial⟩
theorem ten0 {α : Type} {x y : α} : (if (10 : Int) = 0 then x else y) = y := if_neg (by decide)
def ic_fmt_spec : IC := (.seq (.reg false [⟨(some 2), none, .mov (.k (.string ⟨#[]⟩))⟩]) (.seq (.seq (.reg false [⟨(some 6), none, .mov (.t 0)⟩, ⟨(some 7), none, .bin .eql (.t 6) (.k (.int .i64 0))⟩]) (.cond (.t 7) (.seq (.reg false [⟨(some 2), none, .mov (.k (.string ⟨#[48]⟩))⟩]) .ret) .skip)) (.seq (.reg false [⟨(some 8), none, .mov (.t 0)⟩, ⟨(some 9), none, .bin .lss (.t 8) (.k (.int .i64 0))⟩, ⟨(some 3), none, .mov (.t 9)⟩]) (.seq (.reg false [⟨(some 4), none, .mov (.k (.string ⟨#[]⟩))⟩]) (.seq (.block 0 (.loop (.seq (.seq (.reg false [⟨(some 10), none, .mov (.t 0)⟩, ⟨(some 11), none, .bin .neq (.t 10) (.k (.int .i64 0))⟩]) (.cond (.t 11) .skip (.exit 0))) (.block 1 (.seq (.reg false [⟨(some 12), none, .mov (.t 0)⟩, ⟨(some 13), none, .bin .rem (.t 12) (.k (.int .i64 10))⟩, ⟨(some 5), none, .mov (.t 13)⟩]) (.seq (.seq (.reg false [⟨(some 14), none, .mov (.t 5)⟩, ⟨(some 15), none, .bin .lss (.t 14) (.k (.int .i64 0))⟩]) (.cond (.t 15) (.reg false [⟨(some 16), none, .mov (.t 5)⟩, ⟨(some 17), none, .bin .sub (.k (.int .i64 0)) (.t 16)⟩, ⟨(some 5), none, .mov (.t 17)⟩]) .skip)) (.seq (.reg false [⟨(some 18), none, .mov (.t 5)⟩, ⟨(some 19), none, .bin .add (.k (.int .i64 48)) (.t 18)⟩, ⟨(some 20), none, .cvi .u8 (.t 19)⟩, ⟨(some 21), none, .brow true 5 1 1 false [(.t 20)]⟩, ⟨(some 22), none, .cvs (.t 21)⟩, ⟨(some 23), none, .mov (.t 4)⟩, ⟨(some 24), none, .bin .add (.t 22) (.t 23)⟩, ⟨(some 4), none, .mov (.t 24)⟩]) (.reg false [⟨(some 25), none, .mov (.t 0)⟩, ⟨(some 26), none, .bin .quo (.t 25) (.k (.int .i64 10))⟩, ⟨(some 0), none, .mov (.t 26)⟩])))))))) (.seq (.seq (.reg false [⟨(some 27), none, .mov (.t 3)⟩]) (.cond (.t 27) (.seq (.reg false [⟨(some 28), none, .mov (.t 4)⟩, ⟨(some 29), none, .bin .add (.k (.string ⟨#[45]⟩)) (.t 28)⟩, ⟨(some 2), none, .mov (.t 29)⟩]) .ret) .skip)) (.seq (.reg false [⟨(some 30), none, .mov (.t 4)⟩, ⟨(some 2), none, .mov (.t 30)⟩]) .ret)))))))
theorem ic_fmt_spec_ok : compC Tryd.prog (Tryd.f34.body.getD .skip) = some ic_fmt_spec := by kernel_rfl
theorem cat_ok2 {a : UInt8} {o : List UInt8} (h : o.length ≤ 21) : ((((⟨#[a]⟩ : ByteArray).size + (⟨o.toArray⟩ : ByteArray).size : Nat) : Int) > IntKind.i64.max) = False := by
  have e1 : (⟨o.toArray⟩ : ByteArray).size = o.length := by simp [ByteArray.size]
  have e2 : (⟨#[a]⟩ : ByteArray).size = 1 := rfl
  have e3 : IntKind.i64.max = 9223372036854775807 := by decide
  rw [e1, e2, e3]
  simp
  omega
theorem cat_ok3 {a : UInt8} {o : List UInt8} (h : o.length ≤ 21) : (9223372036854775807 < ((((⟨#[a]⟩ : ByteArray).size : Nat) : Int) + (((⟨o.toArray⟩ : ByteArray).size : Nat) : Int))) = False := by
  have e1 : (⟨o.toArray⟩ : ByteArray).size = o.length := by simp [ByteArray.size]
  have e2 : (⟨#[a]⟩ : ByteArray).size = 1 := rfl
  rw [e1, e2]
  simp
  omega
set_option maxHeartbeats 8000000 in
theorem formatInt_spec_to {n : Int} (h0 : -9223372036854775808 ≤ n) (h1 : n ≤ 9223372036854775807) : CallsTo Tryd.prog 34 [li n] (.c false [.raw (.string (fmtI n))]) := by
  refine calls_one (fn := Tryd.f34) (t := 2) (by kernel_rfl) (by kernel_rfl) (by kernel_rfl) ic_fmt_spec_ok ?_
  unfold ic_fmt_spec
  change AWP _ _ _ (st0 31 _)
  simp only [undef, stS, st0, stN, D.av, D.avN, sl_agg, leaf_agg, li_agg, ls_agg, sl_acs, leaf_acs, li_acs, ls_acs, List.map_cons, List.map_nil, List.replicate, List.cons_append, List.nil_append, List.length_cons, List.length_nil, Nat.reduceAdd, Nat.reduceSub]
  by_cases hz : n = 0
  · subst hz
    have hz' : ((0 : Int) == 0) = true := rfl
    repeat' (first | (with_reducible first | refine awp_seq ?_ | refine awp_block ?_ | refine awp_skip ?_ | refine awp_exit ?_ | refine awp_ret ?_ | refine athen ?_ | refine thenExit ?_ | refine thenRet ?_ | refine blockNormal ?_ | refine blockExit ?_ | refine blockRet ?_ | refine roundExit ?_ | refine roundRet ?_ | refine roundExitR ?_ | refine roundRetR ?_) | ((with_reducible refine blockPass ?_ ?_); rfl) | ((with_reducible refine awp_condT ?_ ?_); rfl) | ((with_reducible refine awp_condF ?_ ?_); rfl) | (with_reducible (refine awp_condS rfl ?_ ?_); all_goals (intro hb; have hb' := hb; (try simp only [pkC] at hb'); first | (exfalso; omega) | skip)) | ((with_reducible refine awp_reg ?_); intro K hK) | ((with_reducible refine hK _ ?_); clear hK K) | (with_reducible refine and_split ?_ ?_) | ((with_reducible refine sw_id ?_); simp (disch := first | decide | omega) only [↓pkS, pkW, pkA, undef, capsOf, ex, St.put, St.ev, kav, gdA, opI, rawI, vbin, srcOf, avsD, acsD, AV.toD, AC.toD, AV.nw, AC.nw, AC.one, Value.oneCell', fillA, D.one, D.ones, D.sz, D.szs, Nat.reduceAdd, Nat.reduceSub, Nat.reduceLeDiff, Nat.reduceEqDiff, reduceIte, pkN, li_acs, ls_acs, hz']) | (first | (with_reducible rfl) | (with_reducible refine fnok_id ?_; kernel_rfl) | exact el_strs _ | exact el_ints _ | exact el_ln _ | exact el_tk _ _ | exact el_td _ _ _ | omega | (simp; done) | (simp; omega)) | ((with_reducible refine args_id ?_); simp [ArgsOk, ArgOk, argsD, argD, AC.toD, Value.oneCell', sl_flat, leaf_flat, li_flat, ls_flat, sl_agg, leaf_agg, li_agg, ls_agg, mo_t, mo_f, li_acs, ls_acs, hz']; first | done | rfl))
    exact endRet ⟨_, rfl, by rw [fmtI_pos (by decide)]; rw [show Lib.decDigits (Int.natAbs 0) = [48] from by rw [Lib.decDigits_one (by decide)]; rfl]; rfl, trivial⟩
  have hz' : (n == 0) = false := by simp [hz]
  repeat' (first | (with_reducible first | refine awp_seq ?_ | refine awp_block ?_ | refine awp_skip ?_ | refine awp_exit ?_ | refine awp_ret ?_ | refine athen ?_ | refine thenExit ?_ | refine thenRet ?_ | refine blockNormal ?_ | refine blockExit ?_ | refine blockRet ?_ | refine roundExit ?_ | refine roundRet ?_ | refine roundExitR ?_ | refine roundRetR ?_) | ((with_reducible refine blockPass ?_ ?_); rfl) | ((with_reducible refine awp_condT ?_ ?_); rfl) | ((with_reducible refine awp_condF ?_ ?_); rfl) | (with_reducible (refine awp_condS rfl ?_ ?_); all_goals (intro hb; have hb' := hb; (try simp only [pkC] at hb'); first | (exfalso; omega) | skip)) | ((with_reducible refine awp_reg ?_); intro K hK) | ((with_reducible refine hK _ ?_); clear hK K) | (with_reducible refine and_split ?_ ?_) | ((with_reducible refine sw_id ?_); simp (disch := first | decide | omega) only [↓pkS, pkW, pkA, undef, capsOf, ex, St.put, St.ev, kav, gdA, opI, rawI, vbin, srcOf, avsD, acsD, AV.toD, AC.toD, AV.nw, AC.nw, AC.one, Value.oneCell', fillA, D.one, D.ones, D.sz, D.szs, Nat.reduceAdd, Nat.reduceSub, Nat.reduceLeDiff, Nat.reduceEqDiff, reduceIte, pkN, li_acs, ls_acs, hz']) | (first | (with_reducible rfl) | (with_reducible refine fnok_id ?_; kernel_rfl) | exact el_strs _ | exact el_ints _ | exact el_ln _ | exact el_tk _ _ | exact el_td _ _ _ | omega | (simp; done) | (simp; omega)) | ((with_reducible refine args_id ?_); simp [ArgsOk, ArgOk, argsD, argD, AC.toD, Value.oneCell', sl_flat, leaf_flat, li_flat, ls_flat, sl_agg, leaf_agg, li_agg, ls_agg, mo_t, mo_f, li_acs, ls_acs, hz']; first | done | rfl))
  refine awp_loopB (X := Int × List UInt8) (fun q => [.v (.c false [.raw (.int .i64 q.1)]), .d, .d, .v (.c false [.raw (.bool (decide (n < 0)))]), .v (.c false [.raw (.string ⟨q.2.toArray⟩)]), .d, .d, .d, .d, .d, .d, .d, .d, .d, .d, .d, .d, .d, .d, .d, .d, .d, .d, .d, .d, .d, .d, .d, .d, .d, .d]) (fun q => []) (fun q bs => []) (fun q => FmtInv n q.1 q.2) (fun q => q.1.natAbs) (n, []) (FmtInv.start hz) ?_ ?_
  · simp [StLe', FrLe, OwnLe, BoxLe, AV.fits, AC.fits, FB, mask]
  rintro ⟨m, o⟩ hv
  simp only [FB, mask]
  have hv : FmtInv n m o := hv
  have hab := hv.1
  by_cases hm : m = 0
  · subst hm
    have hne : ((0 : Int) != 0) = false := rfl
    have ho := hv.fin
    have hlen := hv.len (by omega)
    by_cases hb : n < 0
    · have hb' : decide (n < 0) = true := decide_eq_true hb
      repeat' (first | (with_reducible first | refine awp_seq ?_ | refine awp_block ?_ | refine awp_skip ?_ | refine awp_exit ?_ | refine awp_ret ?_ | refine athen ?_ | refine thenExit ?_ | refine thenRet ?_ | refine blockNormal ?_ | refine blockExit ?_ | refine blockRet ?_ | refine roundExit ?_ | refine roundRet ?_ | refine roundExitR ?_ | refine roundRetR ?_) | ((with_reducible refine blockPass ?_ ?_); rfl) | ((with_reducible refine awp_condT ?_ ?_); rfl) | ((with_reducible refine awp_condF ?_ ?_); rfl) | (with_reducible (refine awp_condS rfl ?_ ?_); all_goals (intro hb; have hb' := hb; (try simp only [pkC] at hb'); first | (exfalso; omega) | skip)) | ((with_reducible refine awp_reg ?_); intro K hK) | ((with_reducible refine hK _ ?_); clear hK K) | (with_reducible refine and_split ?_ ?_) | ((with_reducible refine sw_id ?_); simp (disch := first | decide | omega) only [↓pkS, pkW, pkA, undef, capsOf, ex, St.put, St.ev, kav, gdA, opI, rawI, vbin, srcOf, avsD, acsD, AV.toD, AC.toD, AV.nw, AC.nw, AC.one, Value.oneCell', fillA, D.one, D.ones, D.sz, D.szs, Nat.reduceAdd, Nat.reduceSub, Nat.reduceLeDiff, Nat.reduceEqDiff, reduceIte, pkN, li_acs, ls_acs, hne, hb', cat_ok2 hlen, cat_ok3 hlen]) | (first | (with_reducible rfl) | (with_reducible refine fnok_id ?_; kernel_rfl) | exact el_strs _ | exact el_ints _ | exact el_ln _ | exact el_tk _ _ | exact el_td _ _ _ | omega | (simp; done) | (simp; omega)) | ((with_reducible refine args_id ?_); simp [ArgsOk, ArgOk, argsD, argD, AC.toD, Value.oneCell', sl_flat, leaf_flat, li_flat, ls_flat, sl_agg, leaf_agg, li_agg, ls_agg, mo_t, mo_f, li_acs, ls_acs, hne, hb', cat_ok2 hlen, cat_ok3 hlen]; first | done | rfl))
      exact endRet ⟨_, rfl, by rw [fmtI_neg hb, ← ho]; rfl, trivial⟩
    · have hb' : decide (n < 0) = false := decide_eq_false hb
      repeat' (first | (with_reducible first | refine awp_seq ?_ | refine awp_block ?_ | refine awp_skip ?_ | refine awp_exit ?_ | refine awp_ret ?_ | refine athen ?_ | refine thenExit ?_ | refine thenRet ?_ | refine blockNormal ?_ | refine blockExit ?_ | refine blockRet ?_ | refine roundExit ?_ | refine roundRet ?_ | refine roundExitR ?_ | refine roundRetR ?_) | ((with_reducible refine blockPass ?_ ?_); rfl) | ((with_reducible refine awp_condT ?_ ?_); rfl) | ((with_reducible refine awp_condF ?_ ?_); rfl) | (with_reducible (refine awp_condS rfl ?_ ?_); all_goals (intro hb; have hb' := hb; (try simp only [pkC] at hb'); first | (exfalso; omega) | skip)) | ((with_reducible refine awp_reg ?_); intro K hK) | ((with_reducible refine hK _ ?_); clear hK K) | (with_reducible refine and_split ?_ ?_) | ((with_reducible refine sw_id ?_); simp (disch := first | decide | omega) only [↓pkS, pkW, pkA, undef, capsOf, ex, St.put, St.ev, kav, gdA, opI, rawI, vbin, srcOf, avsD, acsD, AV.toD, AC.toD, AV.nw, AC.nw, AC.one, Value.oneCell', fillA, D.one, D.ones, D.sz, D.szs, Nat.reduceAdd, Nat.reduceSub, Nat.reduceLeDiff, Nat.reduceEqDiff, reduceIte, pkN, li_acs, ls_acs, hne, hb', cat_ok2 hlen, cat_ok3 hlen]) | (first | (with_reducible rfl) | (with_reducible refine fnok_id ?_; kernel_rfl) | exact el_strs _ | exact el_ints _ | exact el_ln _ | exact el_tk _ _ | exact el_td _ _ _ | omega | (simp; done) | (simp; omega)) | ((with_reducible refine args_id ?_); simp [ArgsOk, ArgOk, argsD, argD, AC.toD, Value.oneCell', sl_flat, leaf_flat, li_flat, ls_flat, sl_agg, leaf_agg, li_agg, ls_agg, mo_t, mo_f, li_acs, ls_acs, hne, hb', cat_ok2 hlen, cat_ok3 hlen]; first | done | rfl))
      exact endRet ⟨_, rfl, by rw [fmtI_pos (by omega), ← ho]; rfl, trivial⟩
  · have hneq : (m != 0) = true := by simp [hm]
    have hd0 : (n.natAbs : Int) = 0 ∨ True := Or.inr trivial
    have hdv := tdiv_abs m
    have hsg := tdiv_sgn m
    have hmo : m.tmod 10 = m - 10 * m.tdiv 10 := by have := Int.tmod_add_mul_tdiv m 10; omega
    have hw1 : IntKind.i64.wrap (m.tdiv 10) = m.tdiv 10 := wrap_id (by omega) (by omega)
    have hlen := hv.len (by omega)
    have hg := hv.go hm
    by_cases hs : m.tmod 10 < 0
    · have hs' : decide (m.tmod 10 < 0) = true := decide_eq_true hs
      have hw2 : IntKind.i64.wrap (0 - m.tmod 10) = ((m.natAbs % 10 : Nat) : Int) := by rw [wrap_id (by omega) (by omega)]; omega
      have hw3 : IntKind.i64.wrap (48 + ((m.natAbs % 10 : Nat) : Int)) = 48 + ((m.natAbs % 10 : Nat) : Int) := wrap_id (by omega) (by omega)
      have hw4 : IntKind.u8.wrap (48 + ((m.natAbs % 10 : Nat) : Int)) = 48 + ((m.natAbs % 10 : Nat) : Int) := u8_wrap (by omega) (by omega)
      have hw5 : (48 + ((m.natAbs % 10 : Nat) : Int)).toNat = 48 + m.natAbs % 10 := by omega
      repeat' (first | (with_reducible first | refine awp_seq ?_ | refine awp_block ?_ | refine awp_skip ?_ | refine awp_exit ?_ | refine awp_ret ?_ | refine athen ?_ | refine thenExit ?_ | refine thenRet ?_ | refine blockNormal ?_ | refine blockExit ?_ | refine blockRet ?_ | refine roundExit ?_ | refine roundRet ?_ | refine roundExitR ?_ | refine roundRetR ?_) | ((with_reducible refine blockPass ?_ ?_); rfl) | ((with_reducible refine awp_condT ?_ ?_); rfl) | ((with_reducible refine awp_condF ?_ ?_); rfl) | (with_reducible (refine awp_condS rfl ?_ ?_); all_goals (intro hb; have hb' := hb; (try simp only [pkC] at hb'); first | (exfalso; omega) | skip)) | ((with_reducible refine awp_reg ?_); intro K hK) | ((with_reducible refine hK _ ?_); clear hK K) | (with_reducible refine and_split ?_ ?_) | ((with_reducible refine sw_id ?_); simp (disch := first | decide | omega) only [↓pkS, pkW, pkA, undef, capsOf, ex, St.put, St.ev, kav, gdA, opI, rawI, vbin, srcOf, avsD, acsD, AV.toD, AC.toD, AV.nw, AC.nw, AC.one, Value.oneCell', fillA, D.one, D.ones, D.sz, D.szs, Nat.reduceAdd, Nat.reduceSub, Nat.reduceLeDiff, Nat.reduceEqDiff, reduceIte, pkN, li_acs, ls_acs, ten0, hneq, hs', hw1, hw2, hw3, hw4, hw5, bytesD, cat_ok2 hlen]) | (first | (with_reducible rfl) | (with_reducible refine fnok_id ?_; kernel_rfl) | exact el_strs _ | exact el_ints _ | exact el_ln _ | exact el_tk _ _ | exact el_td _ _ _ | omega | (simp; done) | (simp; omega)) | ((with_reducible refine args_id ?_); simp [ArgsOk, ArgOk, argsD, argD, AC.toD, Value.oneCell', sl_flat, leaf_flat, li_flat, ls_flat, sl_agg, leaf_agg, li_agg, ls_agg, mo_t, mo_f, li_acs, ls_acs, ten0, hneq, hs', hw1, hw2, hw3, hw4, hw5, bytesD, cat_ok2 hlen]; first | done | rfl))
      refine roundB (m.tdiv 10, UInt8.ofNat (48 + m.natAbs % 10) :: o) ?_ hg (show (m.tdiv 10).natAbs < m.natAbs by omega)
      simp [StLe', FrLe, OwnLe, BoxLe, AV.fits, AC.fits, FB, mask, ba_app]
    · have hs' : decide (m.tmod 10 < 0) = false := decide_eq_false hs
      have hw2 : m.tmod 10 = ((m.natAbs % 10 : Nat) : Int) := by omega
      have hw3 : IntKind.i64.wrap (48 + ((m.natAbs % 10 : Nat) : Int)) = 48 + ((m.natAbs % 10 : Nat) : Int) := wrap_id (by omega) (by omega)
      have hw4 : IntKind.u8.wrap (48 + ((m.natAbs % 10 : Nat) : Int)) = 48 + ((m.natAbs % 10 : Nat) : Int) := u8_wrap (by omega) (by omega)
      have hw5 : (48 + ((m.natAbs % 10 : Nat) : Int)).toNat = 48 + m.natAbs % 10 := by omega
      repeat' (first | (with_reducible first | refine awp_seq ?_ | refine awp_block ?_ | refine awp_skip ?_ | refine awp_exit ?_ | refine awp_ret ?_ | refine athen ?_ | refine thenExit ?_ | refine thenRet ?_ | refine blockNormal ?_ | refine blockExit ?_ | refine blockRet ?_ | refine roundExit ?_ | refine roundRet ?_ | refine roundExitR ?_ | refine roundRetR ?_) | ((with_reducible refine blockPass ?_ ?_); rfl) | ((with_reducible refine awp_condT ?_ ?_); rfl) | ((with_reducible refine awp_condF ?_ ?_); rfl) | (with_reducible (refine awp_condS rfl ?_ ?_); all_goals (intro hb; have hb' := hb; (try simp only [pkC] at hb'); first | (exfalso; omega) | skip)) | ((with_reducible refine awp_reg ?_); intro K hK) | ((with_reducible refine hK _ ?_); clear hK K) | (with_reducible refine and_split ?_ ?_) | ((with_reducible refine sw_id ?_); simp (disch := first | decide | omega) only [↓pkS, pkW, pkA, undef, capsOf, ex, St.put, St.ev, kav, gdA, opI, rawI, vbin, srcOf, avsD, acsD, AV.toD, AC.toD, AV.nw, AC.nw, AC.one, Value.oneCell', fillA, D.one, D.ones, D.sz, D.szs, Nat.reduceAdd, Nat.reduceSub, Nat.reduceLeDiff, Nat.reduceEqDiff, reduceIte, pkN, li_acs, ls_acs, ten0, hneq, hs', hw1, hw2, hw3, hw4, hw5, bytesD, cat_ok2 hlen]) | (first | (with_reducible rfl) | (with_reducible refine fnok_id ?_; kernel_rfl) | exact el_strs _ | exact el_ints _ | exact el_ln _ | exact el_tk _ _ | exact el_td _ _ _ | omega | (simp; done) | (simp; omega)) | ((with_reducible refine args_id ?_); simp [ArgsOk, ArgOk, argsD, argD, AC.toD, Value.oneCell', sl_flat, leaf_flat, li_flat, ls_flat, sl_agg, leaf_agg, li_agg, ls_agg, mo_t, mo_f, li_acs, ls_acs, ten0, hneq, hs', hw1, hw2, hw3, hw4, hw5, bytesD, cat_ok2 hlen]; first | done | rfl))
      refine roundB (m.tdiv 10, UInt8.ofNat (48 + m.natAbs % 10) :: o) ?_ hg (show (m.tdiv 10).natAbs < m.natAbs by omega)
      simp [StLe', FrLe, OwnLe, BoxLe, AV.fits, AC.fits, FB, mask, ba_app]
end Go.Proofs.YtdjcflnemnknaaaDoor
