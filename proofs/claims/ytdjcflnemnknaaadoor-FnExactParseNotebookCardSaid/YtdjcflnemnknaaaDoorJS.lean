/-
  Texts joined: Num Fmt SJoin NumB Cut.
-/
import Derived.Test.YtdjcflnemnknaaaDoorJA
import Derived.Test.YtdjcflnemnknaaaDoorJD
import Derived.Test.YtdjcflnemnknaaaDoorShelf
import Derived.Lib.AppendIntMem
import Derived.Lib.ItoaLen
import Derived.Test.YtdjcflnemnknaaaDoorJO
import Derived.Lib.Join
import Derived.Lib.AtoiAll
import Derived.Lib.AtoiAllCases
import Derived.Lib.Split
import Derived.Lib.SplitLaws
import Derived.Lib.IndexMore
import Derived.Lib.IndexLaws
namespace Go.Proofs.YtdjcflnemnknaaaDoor
open Go.RowKit
set_option linter.unusedSimpArgs false
set_option linter.unusedVariables false
/-- The numeral of an int. -/
def fmtI (n : Int) : ByteArray := ⟨(Lib.itoa n).toArray⟩
theorem fmtI_len {n : Int} (h0 : -9223372036854775808 ≤ n) (h1 : n ≤ 9223372036854775807) : (fmtI n).size ≤ 21 := by
  have := Lib.itoa_length_le n h0 h1
  simpa [fmtI, ByteArray.size] using this
theorem itoa_to {n : Int} (h0 : -9223372036854775808 ≤ n) (h1 : n ≤ 9223372036854775807) : CallsTo Tryd.prog 74 [li n] (.c false [.raw (.string (fmtI n))]) := to_retBT fun w vs hr ht => by
  obtain ⟨v, rfl, hv⟩ := rds1 hr
  obtain rfl := rd_leaf hv
  exact (Tryd.strconv_Itoa n h0 h1 w ht.pow).mono fun e w' ⟨he, k, os, hw⟩ => ⟨he, by subst hw; exact Lib.below_grow _ w (Nat.le_refl _) k os⟩
theorem dd_big {u : Nat} (h : ¬ u < 10) : Lib.decDigits u = Lib.decDigits (u / 10) ++ [UInt8.ofNat (48 + u % 10)] := by
  rw [Lib.decDigits, dif_neg h]
theorem dd_len {u : Nat} (h : u ≤ 9223372036854775808) : (Lib.decDigits u).length ≤ 21 := by
  by_cases h0 : u = 0
  · subst h0; rw [Lib.decDigits_one (by decide)]; decide
  · have := Lib.itoa_length_le (-(u : Int)) (by omega) (by omega)
    rw [Lib.itoa_neg u (by omega)] at this
    simp at this
    omega
/-- What spec.FormatInt keeps. -/
def FmtInv (n0 n : Int) (o : List UInt8) : Prop := n.natAbs ≤ n0.natAbs ∧ (0 ≤ n0 → 0 ≤ n) ∧ (n0 ≤ 0 → n ≤ 0) ∧ (if n = 0 then o = Lib.decDigits n0.natAbs else Lib.decDigits n.natAbs ++ o = Lib.decDigits n0.natAbs)
theorem FmtInv.start {n0 : Int} (h : n0 ≠ 0) : FmtInv n0 n0 [] := ⟨Nat.le_refl _, id, id, by rw [if_neg h, List.append_nil]⟩
theorem FmtInv.len {n0 n : Int} {o : List UInt8} (h : FmtInv n0 n o) (hb : n0.natAbs ≤ 9223372036854775808) : o.length ≤ 21 := by
  have hl := dd_len hb
  obtain ⟨_, _, _, h⟩ := h
  split at h
  · rw [h]; exact hl
  · rw [← h, List.length_append] at hl; omega
theorem tdiv_abs (n : Int) : (n.tdiv 10).natAbs = n.natAbs / 10 := by rw [Int.natAbs_tdiv]; rfl
theorem tdiv_sgn (n : Int) : (0 ≤ n → 0 ≤ n.tdiv 10) ∧ (n ≤ 0 → n.tdiv 10 ≤ 0) := by
  refine ⟨fun h => Int.tdiv_nonneg h (by decide), fun h => ?_⟩
  have := Int.tdiv_nonneg (a := -n) (b := 10) (by omega) (by decide)
  rw [Int.neg_tdiv] at this
  omega
theorem FmtInv.go {n0 n : Int} {o : List UInt8} (h : FmtInv n0 n o) (hn : n ≠ 0) : FmtInv n0 (n.tdiv 10) (UInt8.ofNat (48 + n.natAbs % 10) :: o) := by
  obtain ⟨h1, h2, h3, h4⟩ := h
  rw [if_neg hn] at h4
  have ha := tdiv_abs n
  have hsg := tdiv_sgn n
  refine ⟨by omega, fun hp => ?_, fun hp => ?_, ?_⟩
  · have := h2 hp; omega
  · have := h3 hp; omega
  · by_cases hs : n.natAbs < 10
    · have hz : n.tdiv 10 = 0 := by omega
      rw [if_pos hz, ← h4, Lib.decDigits_one hs, Nat.mod_eq_of_lt hs]
      rfl
    · have hz : n.tdiv 10 ≠ 0 := by omega
      rw [if_neg hz, ← h4, dd_big hs, ha]
      simp
theorem FmtInv.fin {n0 : Int} {o : List UInt8} (h : FmtInv n0 0 o) : o = Lib.decDigits n0.natAbs := by
  obtain ⟨_, _, _, h⟩ := h
  simpa using h
theorem fmtI_pos {n : Int} (h : 0 ≤ n) : fmtI n = ⟨(Lib.decDigits n.natAbs).toArray⟩ := by
  unfold fmtI Lib.itoa
  rw [if_neg (by omega)]
  have e : n.toNat = n.natAbs := by omega
  rw [e]
theorem fmtI_neg {n : Int} (h : n < 0) : fmtI n = ⟨(45 :: Lib.decDigits n.natAbs).toArray⟩ := by
  unfold fmtI Lib.itoa
  rw [if_pos h]
theorem ba_app (a b : List UInt8) : (⟨a.toArray⟩ : ByteArray) ++ ⟨b.toArray⟩ = ⟨(a ++ b).toArray⟩ := by
  apply ByteArray.ext
  simp
theorem u8_wrap {d : Int} (h0 : 0 ≤ d) (h1 : d ≤ 255) : IntKind.u8.wrap d = d := by
  simp [IntKind.wrap, IntKind.signed, IntKind.bits]
  omega
def ic_fmt_impl : IC := (.seq (.reg false [⟨(some 2), none, .mov (.k (.string ⟨#[]⟩))⟩]) (.seq (.reg false [⟨(some 3), none, .mov (.t 0)⟩, ⟨(some 4), none, .call 74 [(.t 3)]⟩, ⟨(some 2), none, .mov (.t 4)⟩]) .ret))
theorem ic_fmt_impl_ok : compC Tryd.prog (Tryd.f36.body.getD .skip) = some ic_fmt_impl := by kernel_rfl
theorem formatInt_impl_to {n : Int} (h0 : -9223372036854775808 ≤ n) (h1 : n ≤ 9223372036854775807) : CallsTo Tryd.prog 36 [li n] (.c false [.raw (.string (fmtI n))]) := by
  refine calls_one (fn := Tryd.f36) (t := 2) (by kernel_rfl) (by kernel_rfl) (by kernel_rfl) ic_fmt_impl_ok ?_
  unfold ic_fmt_impl
  change AWP _ _ _ (st0 5 _)
  simp only [undef, stS, st0, stN, D.av, D.avN, sl_agg, leaf_agg, li_agg, ls_agg, sl_acs, leaf_acs, li_acs, ls_acs, List.map_cons, List.map_nil, List.replicate, List.cons_append, List.nil_append, List.length_cons, List.length_nil, Nat.reduceAdd, Nat.reduceSub]
  have hi := itoa_to h0 h1
  repeat' (first | (with_reducible first | refine awp_seq ?_ | refine awp_block ?_ | refine awp_skip ?_ | refine awp_exit ?_ | refine awp_ret ?_ | refine athen ?_ | refine thenExit ?_ | refine thenRet ?_ | refine blockNormal ?_ | refine blockExit ?_ | refine blockRet ?_ | refine roundExit ?_ | refine roundRet ?_ | refine roundExitR ?_ | refine roundRetR ?_) | ((with_reducible refine blockPass ?_ ?_); rfl) | ((with_reducible refine awp_condT ?_ ?_); rfl) | ((with_reducible refine awp_condF ?_ ?_); rfl) | (with_reducible (refine awp_condS rfl ?_ ?_); all_goals (intro hb; have hb' := hb; (try simp only [pkC] at hb'); first | (exfalso; omega) | skip)) | ((with_reducible refine awp_reg ?_); intro K hK) | ((with_reducible refine hK _ ?_); clear hK K) | (with_reducible refine and_split ?_ ?_) | ((with_reducible refine ct_id ?_); first | (refine callThen hi trivial ?_ ?_)) | ((with_reducible refine ctd_id ?_); first | (refine callThenD hi trivial ?_ ?_)) | ((with_reducible refine sw_id ?_); simp (disch := first | decide | omega) only [↓pkS, pkW, pkA, undef, capsOf, ex, St.put, St.ev, kav, gdA, opI, rawI, vbin, srcOf, avsD, acsD, AV.toD, AC.toD, AV.nw, AC.nw, AC.one, Value.oneCell', fillA, D.one, D.ones, D.sz, D.szs, Nat.reduceAdd, Nat.reduceSub, Nat.reduceLeDiff, Nat.reduceEqDiff, reduceIte, pkN, li_acs, ls_acs]) | (first | (with_reducible rfl) | (with_reducible refine fnok_id ?_; kernel_rfl) | exact el_strs _ | exact el_ints _ | exact el_ln _ | exact el_tk _ _ | exact el_td _ _ _ | omega | (simp; done) | (simp; omega)) | ((with_reducible refine args_id ?_); simp [ArgsOk, ArgOk, argsD, argD, AC.toD, Value.oneCell', sl_flat, leaf_flat, li_flat, ls_flat, sl_agg, leaf_agg, li_agg, ls_agg, mo_t, mo_f, li_acs, ls_acs]; first | done | rfl))
  exact endRet ⟨_, rfl, rfl, trivial⟩
theorem ten0 {α : Type} {x y : α} : (if (10 : Int) = 0 then x else y) = y := if_neg (by decide)
def ic_fmt_spec : IC := (.seq (.reg false [⟨(some 2), none, .mov (.k (.string ⟨#[]⟩))⟩]) (.seq (.seq (.reg false [⟨(some 6), none, .mov (.t 0)⟩, ⟨(some 7), none, .bin .eql (.t 6) (.k (.int .i64 0))⟩]) (.cond (.t 7) (.seq (.reg false [⟨(some 2), none, .mov (.k (.string ⟨#[48]⟩))⟩]) .ret) .skip)) (.seq (.reg false [⟨(some 8), none, .mov (.t 0)⟩, ⟨(some 9), none, .bin .lss (.t 8) (.k (.int .i64 0))⟩, ⟨(some 3), none, .mov (.t 9)⟩]) (.seq (.reg false [⟨(some 4), none, .mov (.k (.string ⟨#[]⟩))⟩]) (.seq (.block 0 (.loop (.seq (.seq (.reg false [⟨(some 10), none, .mov (.t 0)⟩, ⟨(some 11), none, .bin .neq (.t 10) (.k (.int .i64 0))⟩]) (.cond (.t 11) .skip (.exit 0))) (.block 1 (.seq (.reg false [⟨(some 12), none, .mov (.t 0)⟩, ⟨(some 13), none, .bin .rem (.t 12) (.k (.int .i64 10))⟩, ⟨(some 5), none, .mov (.t 13)⟩]) (.seq (.seq (.reg false [⟨(some 14), none, .mov (.t 5)⟩, ⟨(some 15), none, .bin .lss (.t 14) (.k (.int .i64 0))⟩]) (.cond (.t 15) (.reg false [⟨(some 16), none, .mov (.t 5)⟩, ⟨(some 17), none, .bin .sub (.k (.int .i64 0)) (.t 16)⟩, ⟨(some 5), none, .mov (.t 17)⟩]) .skip)) (.seq (.reg false [⟨(some 18), none, .mov (.t 5)⟩, ⟨(some 19), none, .bin .add (.k (.int .i64 48)) (.t 18)⟩, ⟨(some 20), none, .cvi .u8 (.t 19)⟩, ⟨(some 21), none, .brow true 5 1 1 false [(.t 20)]⟩, ⟨(some 22), none, .cvs (.t 21)⟩, ⟨(some 23), none, .mov (.t 4)⟩, ⟨(some 24), none, .bin .add (.t 22) (.t 23)⟩, ⟨(some 4), none, .mov (.t 24)⟩]) (.reg false [⟨(some 25), none, .mov (.t 0)⟩, ⟨(some 26), none, .bin .quo (.t 25) (.k (.int .i64 10))⟩, ⟨(some 0), none, .mov (.t 26)⟩])))))))) (.seq (.seq (.reg false [⟨(some 27), none, .mov (.t 3)⟩]) (.cond (.t 27) (.seq (.reg false [⟨(some 28), none, .mov (.t 4)⟩, ⟨(some 29), none, .bin .add (.k (.string ⟨#[45]⟩)) (.t 28)⟩, ⟨(some 2), none, .mov (.t 29)⟩]) .ret) .skip)) (.seq (.reg false [⟨(some 30), none, .mov (.t 4)⟩, ⟨(some 2), none, .mov (.t 30)⟩]) .ret)))))))
theorem ic_fmt_spec_ok : compC Tryd.prog (Tryd.f34.body.getD .skip) = some ic_fmt_spec := by kernel_rfl
theorem cat_ok2 {a : UInt8} {o : List UInt8} (h : o.length ≤ 21) : ((((⟨#[a]⟩ : ByteArray).size + (⟨o.toArray⟩ : ByteArray).size : Nat) : Int) > IntKind.i64.max) = False := by
  have e1 : (⟨o.toArray⟩ : ByteArray).size = o.length := by simp [ByteArray.size]
  have e2 : (⟨#[a]⟩ : ByteArray).size = 1 := rfl
  have e3 : IntKind.i64.max = 9223372036854775807 := by decide
  rw [e1, e2, e3]
  simp
  omega
theorem cat_ok3 {a : UInt8} {o : List UInt8} (h : o.length ≤ 21) : (9223372036854775807 < ((((⟨#[a]⟩ : ByteArray).size : Nat) : Int) + (((⟨o.toArray⟩ : ByteArray).size : Nat) : Int))) = False := by
  have e1 : (⟨o.toArray⟩ : ByteArray).size = o.length := by simp [ByteArray.size]
  have e2 : (⟨#[a]⟩ : ByteArray).size = 1 := rfl
  rw [e1, e2]
  simp
  omega
set_option maxHeartbeats 8000000 in
theorem formatInt_spec_to {n : Int} (h0 : -9223372036854775808 ≤ n) (h1 : n ≤ 9223372036854775807) : CallsTo Tryd.prog 34 [li n] (.c false [.raw (.string (fmtI n))]) := by
  refine calls_one (fn := Tryd.f34) (t := 2) (by kernel_rfl) (by kernel_rfl) (by kernel_rfl) ic_fmt_spec_ok ?_
  unfold ic_fmt_spec
  change AWP _ _ _ (st0 31 _)
  simp only [undef, stS, st0, stN, D.av, D.avN, sl_agg, leaf_agg, li_agg, ls_agg, sl_acs, leaf_acs, li_acs, ls_acs, List.map_cons, List.map_nil, List.replicate, List.cons_append, List.nil_append, List.length_cons, List.length_nil, Nat.reduceAdd, Nat.reduceSub]
  by_cases hz : n = 0
  · subst hz
    have hz' : ((0 : Int) == 0) = true := rfl
    repeat' (first | (with_reducible first | refine awp_seq ?_ | refine awp_block ?_ | refine awp_skip ?_ | refine awp_exit ?_ | refine awp_ret ?_ | refine athen ?_ | refine thenExit ?_ | refine thenRet ?_ | refine blockNormal ?_ | refine blockExit ?_ | refine blockRet ?_ | refine roundExit ?_ | refine roundRet ?_ | refine roundExitR ?_ | refine roundRetR ?_) | ((with_reducible refine blockPass ?_ ?_); rfl) | ((with_reducible refine awp_condT ?_ ?_); rfl) | ((with_reducible refine awp_condF ?_ ?_); rfl) | (with_reducible (refine awp_condS rfl ?_ ?_); all_goals (intro hb; have hb' := hb; (try simp only [pkC] at hb'); first | (exfalso; omega) | skip)) | ((with_reducible refine awp_reg ?_); intro K hK) | ((with_reducible refine hK _ ?_); clear hK K) | (with_reducible refine and_split ?_ ?_) | ((with_reducible refine sw_id ?_); simp (disch := first | decide | omega) only [↓pkS, pkW, pkA, undef, capsOf, ex, St.put, St.ev, kav, gdA, opI, rawI, vbin, srcOf, avsD, acsD, AV.toD, AC.toD, AV.nw, AC.nw, AC.one, Value.oneCell', fillA, D.one, D.ones, D.sz, D.szs, Nat.reduceAdd, Nat.reduceSub, Nat.reduceLeDiff, Nat.reduceEqDiff, reduceIte, pkN, li_acs, ls_acs, hz']) | (first | (with_reducible rfl) | (with_reducible refine fnok_id ?_; kernel_rfl) | exact el_strs _ | exact el_ints _ | exact el_ln _ | exact el_tk _ _ | exact el_td _ _ _ | omega | (simp; done) | (simp; omega)) | ((with_reducible refine args_id ?_); simp [ArgsOk, ArgOk, argsD, argD, AC.toD, Value.oneCell', sl_flat, leaf_flat, li_flat, ls_flat, sl_agg, leaf_agg, li_agg, ls_agg, mo_t, mo_f, li_acs, ls_acs, hz']; first | done | rfl))
    exact endRet ⟨_, rfl, by rw [fmtI_pos (by decide)]; rw [show Lib.decDigits (Int.natAbs 0) = [48] from by rw [Lib.decDigits_one (by decide)]; rfl]; rfl, trivial⟩
  have hz' : (n == 0) = false := by simp [hz]
  repeat' (first | (with_reducible first | refine awp_seq ?_ | refine awp_block ?_ | refine awp_skip ?_ | refine awp_exit ?_ | refine awp_ret ?_ | refine athen ?_ | refine thenExit ?_ | refine thenRet ?_ | refine blockNormal ?_ | refine blockExit ?_ | refine blockRet ?_ | refine roundExit ?_ | refine roundRet ?_ | refine roundExitR ?_ | refine roundRetR ?_) | ((with_reducible refine blockPass ?_ ?_); rfl) | ((with_reducible refine awp_condT ?_ ?_); rfl) | ((with_reducible refine awp_condF ?_ ?_); rfl) | (with_reducible (refine awp_condS rfl ?_ ?_); all_goals (intro hb; have hb' := hb; (try simp only [pkC] at hb'); first | (exfalso; omega) | skip)) | ((with_reducible refine awp_reg ?_); intro K hK) | ((with_reducible refine hK _ ?_); clear hK K) | (with_reducible refine and_split ?_ ?_) | ((with_reducible refine sw_id ?_); simp (disch := first | decide | omega) only [↓pkS, pkW, pkA, undef, capsOf, ex, St.put, St.ev, kav, gdA, opI, rawI, vbin, srcOf, avsD, acsD, AV.toD, AC.toD, AV.nw, AC.nw, AC.one, Value.oneCell', fillA, D.one, D.ones, D.sz, D.szs, Nat.reduceAdd, Nat.reduceSub, Nat.reduceLeDiff, Nat.reduceEqDiff, reduceIte, pkN, li_acs, ls_acs, hz']) | (first | (with_reducible rfl) | (with_reducible refine fnok_id ?_; kernel_rfl) | exact el_strs _ | exact el_ints _ | exact el_ln _ | exact el_tk _ _ | exact el_td _ _ _ | omega | (simp; done) | (simp; omega)) | ((with_reducible refine args_id ?_); simp [ArgsOk, ArgOk, argsD, argD, AC.toD, Value.oneCell', sl_flat, leaf_flat, li_flat, ls_flat, sl_agg, leaf_agg, li_agg, ls_agg, mo_t, mo_f, li_acs, ls_acs, hz']; first | done | rfl))
  refine awp_loopB (X := Int × List UInt8) (fun q => [.v (.c false [.raw (.int .i64 q.1)]), .d, .d, .v (.c false [.raw (.bool (decide (n < 0)))]), .v (.c false [.raw (.string ⟨q.2.toArray⟩)]), .d, .d, .d, .d, .d, .d, .d, .d, .d, .d, .d, .d, .d, .d, .d, .d, .d, .d, .d, .d, .d, .d, .d, .d, .d, .d]) (fun q => []) (fun q bs => []) (fun q => FmtInv n q.1 q.2) (fun q => q.1.natAbs) (n, []) (FmtInv.start hz) ?_ ?_
  · simp [StLe', FrLe, OwnLe, BoxLe, AV.fits, AC.fits, FB, mask]
  rintro ⟨m, o⟩ hv
  simp only [FB, mask]
  have hv : FmtInv n m o := hv
  have hab := hv.1
  by_cases hm : m = 0
  · subst hm
    have hne : ((0 : Int) != 0) = false := rfl
    have ho := hv.fin
    have hlen := hv.len (by omega)
    by_cases hb : n < 0
    · have hb' : decide (n < 0) = true := decide_eq_true hb
      repeat' (first | (with_reducible first | refine awp_seq ?_ | refine awp_block ?_ | refine awp_skip ?_ | refine awp_exit ?_ | refine awp_ret ?_ | refine athen ?_ | refine thenExit ?_ | refine thenRet ?_ | refine blockNormal ?_ | refine blockExit ?_ | refine blockRet ?_ | refine roundExit ?_ | refine roundRet ?_ | refine roundExitR ?_ | refine roundRetR ?_) | ((with_reducible refine blockPass ?_ ?_); rfl) | ((with_reducible refine awp_condT ?_ ?_); rfl) | ((with_reducible refine awp_condF ?_ ?_); rfl) | (with_reducible (refine awp_condS rfl ?_ ?_); all_goals (intro hb; have hb' := hb; (try simp only [pkC] at hb'); first | (exfalso; omega) | skip)) | ((with_reducible refine awp_reg ?_); intro K hK) | ((with_reducible refine hK _ ?_); clear hK K) | (with_reducible refine and_split ?_ ?_) | ((with_reducible refine sw_id ?_); simp (disch := first | decide | omega) only [↓pkS, pkW, pkA, undef, capsOf, ex, St.put, St.ev, kav, gdA, opI, rawI, vbin, srcOf, avsD, acsD, AV.toD, AC.toD, AV.nw, AC.nw, AC.one, Value.oneCell', fillA, D.one, D.ones, D.sz, D.szs, Nat.reduceAdd, Nat.reduceSub, Nat.reduceLeDiff, Nat.reduceEqDiff, reduceIte, pkN, li_acs, ls_acs, hne, hb', cat_ok2 hlen, cat_ok3 hlen]) | (first | (with_reducible rfl) | (with_reducible refine fnok_id ?_; kernel_rfl) | exact el_strs _ | exact el_ints _ | exact el_ln _ | exact el_tk _ _ | exact el_td _ _ _ | omega | (simp; done) | (simp; omega)) | ((with_reducible refine args_id ?_); simp [ArgsOk, ArgOk, argsD, argD, AC.toD, Value.oneCell', sl_flat, leaf_flat, li_flat, ls_flat, sl_agg, leaf_agg, li_agg, ls_agg, mo_t, mo_f, li_acs, ls_acs, hne, hb', cat_ok2 hlen, cat_ok3 hlen]; first | done | rfl))
      exact endRet ⟨_, rfl, by rw [fmtI_neg hb, ← ho]; rfl, trivial⟩
    · have hb' : decide (n < 0) = false := decide_eq_false hb
      repeat' (first | (with_reducible first | refine awp_seq ?_ | refine awp_block ?_ | refine awp_skip ?_ | refine awp_exit ?_ | refine awp_ret ?_ | refine athen ?_ | refine thenExit ?_ | refine thenRet ?_ | refine blockNormal ?_ | refine blockExit ?_ | refine blockRet ?_ | refine roundExit ?_ | refine roundRet ?_ | refine roundExitR ?_ | refine roundRetR ?_) | ((with_reducible refine blockPass ?_ ?_); rfl) | ((with_reducible refine awp_condT ?_ ?_); rfl) | ((with_reducible refine awp_condF ?_ ?_); rfl) | (with_reducible (refine awp_condS rfl ?_ ?_); all_goals (intro hb; have hb' := hb; (try simp only [pkC] at hb'); first | (exfalso; omega) | skip)) | ((with_reducible refine awp_reg ?_); intro K hK) | ((with_reducible refine hK _ ?_); clear hK K) | (with_reducible refine and_split ?_ ?_) | ((with_reducible refine sw_id ?_); simp (disch := first | decide | omega) only [↓pkS, pkW, pkA, undef, capsOf, ex, St.put, St.ev, kav, gdA, opI, rawI, vbin, srcOf, avsD, acsD, AV.toD, AC.toD, AV.nw, AC.nw, AC.one, Value.oneCell', fillA, D.one, D.ones, D.sz, D.szs, Nat.reduceAdd, Nat.reduceSub, Nat.reduceLeDiff, Nat.reduceEqDiff, reduceIte, pkN, li_acs, ls_acs, hne, hb', cat_ok2 hlen, cat_ok3 hlen]) | (first | (with_reducible rfl) | (with_reducible refine fnok_id ?_; kernel_rfl) | exact el_strs _ | exact el_ints _ | exact el_ln _ | exact el_tk _ _ | exact el_td _ _ _ | omega | (simp; done) | (simp; omega)) | ((with_reducible refine args_id ?_); simp [ArgsOk, ArgOk, argsD, argD, AC.toD, Value.oneCell', sl_flat, leaf_flat, li_flat, ls_flat, sl_agg, leaf_agg, li_agg, ls_agg, mo_t, mo_f, li_acs, ls_acs, hne, hb', cat_ok2 hlen, cat_ok3 hlen]; first | done | rfl))
      exact endRet ⟨_, rfl, by rw [fmtI_pos (by omega), ← ho]; rfl, trivial⟩
  · have hneq : (m != 0) = true := by simp [hm]
    have hd0 : (n.natAbs : Int) = 0 ∨ True := Or.inr trivial
    have hdv := tdiv_abs m
    have hsg := tdiv_sgn m
    have hmo : m.tmod 10 = m - 10 * m.tdiv 10 := by have := Int.tmod_add_mul_tdiv m 10; omega
    have hw1 : IntKind.i64.wrap (m.tdiv 10) = m.tdiv 10 := wrap_id (by omega) (by omega)
    have hlen := hv.len (by omega)
    have hg := hv.go hm
    by_cases hs : m.tmod 10 < 0
    · have hs' : decide (m.tmod 10 < 0) = true := decide_eq_true hs
      have hw2 : IntKind.i64.wrap (0 - m.tmod 10) = ((m.natAbs % 10 : Nat) : Int) := by rw [wrap_id (by omega) (by omega)]; omega
      have hw3 : IntKind.i64.wrap (48 + ((m.natAbs % 10 : Nat) : Int)) = 48 + ((m.natAbs % 10 : Nat) : Int) := wrap_id (by omega) (by omega)
      have hw4 : IntKind.u8.wrap (48 + ((m.natAbs % 10 : Nat) : Int)) = 48 + ((m.natAbs % 10 : Nat) : Int) := u8_wrap (by omega) (by omega)
      have hw5 : (48 + ((m.natAbs % 10 : Nat) : Int)).toNat = 48 + m.natAbs % 10 := by omega
      repeat' (first | (with_reducible first | refine awp_seq ?_ | refine awp_block ?_ | refine awp_skip ?_ | refine awp_exit ?_ | refine awp_ret ?_ | refine athen ?_ | refine thenExit ?_ | refine thenRet ?_ | refine blockNormal ?_ | refine blockExit ?_ | refine blockRet ?_ | refine roundExit ?_ | refine roundRet ?_ | refine roundExitR ?_ | refine roundRetR ?_) | ((with_reducible refine blockPass ?_ ?_); rfl) | ((with_reducible refine awp_condT ?_ ?_); rfl) | ((with_reducible refine awp_condF ?_ ?_); rfl) | (with_reducible (refine awp_condS rfl ?_ ?_); all_goals (intro hb; have hb' := hb; (try simp only [pkC] at hb'); first | (exfalso; omega) | skip)) | ((with_reducible refine awp_reg ?_); intro K hK) | ((with_reducible refine hK _ ?_); clear hK K) | (with_reducible refine and_split ?_ ?_) | ((with_reducible refine sw_id ?_); simp (disch := first | decide | omega) only [↓pkS, pkW, pkA, undef, capsOf, ex, St.put, St.ev, kav, gdA, opI, rawI, vbin, srcOf, avsD, acsD, AV.toD, AC.toD, AV.nw, AC.nw, AC.one, Value.oneCell', fillA, D.one, D.ones, D.sz, D.szs, Nat.reduceAdd, Nat.reduceSub, Nat.reduceLeDiff, Nat.reduceEqDiff, reduceIte, pkN, li_acs, ls_acs, ten0, hneq, hs', hw1, hw2, hw3, hw4, hw5, bytesD, cat_ok2 hlen]) | (first | (with_reducible rfl) | (with_reducible refine fnok_id ?_; kernel_rfl) | exact el_strs _ | exact el_ints _ | exact el_ln _ | exact el_tk _ _ | exact el_td _ _ _ | omega | (simp; done) | (simp; omega)) | ((with_reducible refine args_id ?_); simp [ArgsOk, ArgOk, argsD, argD, AC.toD, Value.oneCell', sl_flat, leaf_flat, li_flat, ls_flat, sl_agg, leaf_agg, li_agg, ls_agg, mo_t, mo_f, li_acs, ls_acs, ten0, hneq, hs', hw1, hw2, hw3, hw4, hw5, bytesD, cat_ok2 hlen]; first | done | rfl))
      refine roundB (m.tdiv 10, UInt8.ofNat (48 + m.natAbs % 10) :: o) ?_ hg (show (m.tdiv 10).natAbs < m.natAbs by omega)
      simp [StLe', FrLe, OwnLe, BoxLe, AV.fits, AC.fits, FB, mask, ba_app]
    · have hs' : decide (m.tmod 10 < 0) = false := decide_eq_false hs
      have hw2 : m.tmod 10 = ((m.natAbs % 10 : Nat) : Int) := by omega
      have hw3 : IntKind.i64.wrap (48 + ((m.natAbs % 10 : Nat) : Int)) = 48 + ((m.natAbs % 10 : Nat) : Int) := wrap_id (by omega) (by omega)
      have hw4 : IntKind.u8.wrap (48 + ((m.natAbs % 10 : Nat) : Int)) = 48 + ((m.natAbs % 10 : Nat) : Int) := u8_wrap (by omega) (by omega)
      have hw5 : (48 + ((m.natAbs % 10 : Nat) : Int)).toNat = 48 + m.natAbs % 10 := by omega
      repeat' (first | (with_reducible first | refine awp_seq ?_ | refine awp_block ?_ | refine awp_skip ?_ | refine awp_exit ?_ | refine awp_ret ?_ | refine athen ?_ | refine thenExit ?_ | refine thenRet ?_ | refine blockNormal ?_ | refine blockExit ?_ | refine blockRet ?_ | refine roundExit ?_ | refine roundRet ?_ | refine roundExitR ?_ | refine roundRetR ?_) | ((with_reducible refine blockPass ?_ ?_); rfl) | ((with_reducible refine awp_condT ?_ ?_); rfl) | ((with_reducible refine awp_condF ?_ ?_); rfl) | (with_reducible (refine awp_condS rfl ?_ ?_); all_goals (intro hb; have hb' := hb; (try simp only [pkC] at hb'); first | (exfalso; omega) | skip)) | ((with_reducible refine awp_reg ?_); intro K hK) | ((with_reducible refine hK _ ?_); clear hK K) | (with_reducible refine and_split ?_ ?_) | ((with_reducible refine sw_id ?_); simp (disch := first | decide | omega) only [↓pkS, pkW, pkA, undef, capsOf, ex, St.put, St.ev, kav, gdA, opI, rawI, vbin, srcOf, avsD, acsD, AV.toD, AC.toD, AV.nw, AC.nw, AC.one, Value.oneCell', fillA, D.one, D.ones, D.sz, D.szs, Nat.reduceAdd, Nat.reduceSub, Nat.reduceLeDiff, Nat.reduceEqDiff, reduceIte, pkN, li_acs, ls_acs, ten0, hneq, hs', hw1, hw2, hw3, hw4, hw5, bytesD, cat_ok2 hlen]) | (first | (with_reducible rfl) | (with_reducible refine fnok_id ?_; kernel_rfl) | exact el_strs _ | exact el_ints _ | exact el_ln _ | exact el_tk _ _ | exact el_td _ _ _ | omega | (simp; done) | (simp; omega)) | ((with_reducible refine args_id ?_); simp [ArgsOk, ArgOk, argsD, argD, AC.toD, Value.oneCell', sl_flat, leaf_flat, li_flat, ls_flat, sl_agg, leaf_agg, li_agg, ls_agg, mo_t, mo_f, li_acs, ls_acs, ten0, hneq, hs', hw1, hw2, hw3, hw4, hw5, bytesD, cat_ok2 hlen]; first | done | rfl))
      refine roundB (m.tdiv 10, UInt8.ofNat (48 + m.natAbs % 10) :: o) ?_ hg (show (m.tdiv 10).natAbs < m.natAbs by omega)
      simp [StLe', FrLe, OwnLe, BoxLe, AV.fits, AC.fits, FB, mask, ba_app]
end Go.Proofs.YtdjcflnemnknaaaDoor

namespace Go.Proofs.YtdjcflnemnknaaaDoor
open Go.RowKit
set_option linter.unusedSimpArgs false
set_option linter.unusedVariables false
theorem getq_mapF {α : Type} {f : α → D} {l : List α} {k : Nat} (h : k < l.length) : (l.map f)[k]? = some (f l[k]) := by rw [List.getElem?_map, List.getElem?_eq_getElem h]; rfl
/-- Strings joined by another. -/
def joinK (l : List ByteArray) (b : ByteArray) : Nat → List UInt8
  | 0 => []
  | k + 1 => joinK l b k ++ ((if 0 < k then b.data.toList else []) ++ (l.getD k ⟨#[]⟩).data.toList)
def joinB (l : List ByteArray) (b : ByteArray) : ByteArray := ⟨(joinK l b l.length).toArray⟩
theorem joinK_le (l : List ByteArray) (b : ByteArray) : ∀ {k n : Nat}, k ≤ n → (joinK l b k).length ≤ (joinK l b n).length
  | k, 0, h => by
    obtain rfl : k = 0 := by omega
    exact Nat.le_refl _
  | k, n + 1, h => by
    by_cases hk : k = n + 1
    · subst hk; exact Nat.le_refl _
    · have := joinK_le l b (k := k) (n := n) (by omega)
      simp only [joinK, List.length_append]
      omega
theorem joinK_step {l : List ByteArray} {b : ByteArray} {k : Nat} (h : k < l.length) : joinK l b (k + 1) = joinK l b k ++ ((if 0 < k then b.data.toList else []) ++ l[k].data.toList) := by
  simp [joinK, List.getD_eq_getElem?_getD, h]
theorem ba_size (s : ByteArray) : s.data.toList.length = s.size := by simp
def ic_join_spec : IC := (.seq (.reg false [⟨(some 4), none, .mov (.k (.string ⟨#[]⟩))⟩]) (.seq (.reg false [⟨(some 7), none, .brow true 5 1 0 false []⟩, ⟨(some 5), none, .mov (.t 7)⟩]) (.seq (.seq (.reg false [⟨(some 6), none, .mov (.k (.int .i64 0))⟩]) (.block 0 (.loop (.seq (.seq (.reg false [⟨(some 8), none, .mov (.t 6)⟩, ⟨(some 9), none, .mov (.t 0)⟩, ⟨(some 10), none, .len false (.t 9)⟩, ⟨(some 11), none, .bin .lss (.t 8) (.t 10)⟩]) (.cond (.t 11) .skip (.exit 0))) (.seq (.block 1 (.seq (.seq (.reg false [⟨(some 14), none, .mov (.t 6)⟩, ⟨(some 15), none, .bin .gtr (.t 14) (.k (.int .i64 0))⟩]) (.cond (.t 15) (.reg false [⟨(some 16), none, .mov (.t 5)⟩, ⟨(some 17), none, .mov (.t 1)⟩, ⟨(some 18), none, .apps 5 (.t 16) (.t 17)⟩, ⟨(some 5), none, .mov (.t 18)⟩]) .skip)) (.reg false [⟨(some 19), none, .mov (.t 5)⟩, ⟨(some 20), none, .mov (.t 0)⟩, ⟨(some 21), none, .mov (.t 6)⟩, ⟨(some 22), none, .iad 1 (.t 20) (.t 21)⟩, ⟨(some 23), none, .load 1 false (.t 22)⟩, ⟨(some 24), none, .apps 5 (.t 19) (.t 23)⟩, ⟨(some 5), none, .mov (.t 24)⟩]))) (.reg false [⟨(some 12), none, .mov (.t 6)⟩, ⟨(some 13), none, .bin .add (.t 12) (.k (.int .i64 1))⟩, ⟨(some 6), none, .mov (.t 13)⟩])))))) (.seq (.reg false [⟨(some 25), none, .mov (.t 5)⟩, ⟨(some 26), none, .cvs (.t 25)⟩, ⟨(some 4), none, .mov (.t 26)⟩]) .ret))))
theorem ic_join_spec_ok : compC Tryd.prog (Tryd.f33.body.getD .skip) = some ic_join_spec := by kernel_rfl
set_option maxHeartbeats 8000000 in
theorem join_spec_to (l : List ByteArray) (b : ByteArray) (hb : (joinK l b l.length).length ≤ 1073741824) (hn : l.length ≤ 4194304) : CallsTo Tryd.prog 33 [.sl (l.map ls), ls b] (.c false [.raw (.string (joinB l b))]) := by
  refine calls_one (fn := Tryd.f33) (t := 4) (by kernel_rfl) (by kernel_rfl) (by kernel_rfl) ic_join_spec_ok ?_
  unfold ic_join_spec
  change AWP _ _ _ (st0 27 _)
  simp only [undef, stS, st0, stN, D.av, D.avN, sl_agg, leaf_agg, li_agg, ls_agg, sl_acs, leaf_acs, li_acs, ls_acs, GCell.acs_eq, GCell.flat_eq, GCell.agg_eq, List.map_cons, List.map_nil, List.replicate, List.cons_append, List.nil_append, List.length_cons, List.length_nil, Nat.reduceAdd, Nat.reduceSub]
  repeat' (first | (with_reducible first | refine awp_seq ?_ | refine awp_block ?_ | refine awp_skip ?_ | refine awp_exit ?_ | refine awp_ret ?_ | refine athen ?_ | refine thenExit ?_ | refine thenRet ?_ | refine blockNormal ?_ | refine blockExit ?_ | refine blockRet ?_ | refine roundExit ?_ | refine roundRet ?_ | refine roundExitR ?_ | refine roundRetR ?_) | ((with_reducible refine blockPass ?_ ?_); rfl) | ((with_reducible refine awp_condT ?_ ?_); rfl) | ((with_reducible refine awp_condF ?_ ?_); rfl) | (with_reducible (refine awp_condS rfl ?_ ?_); all_goals (intro hb; have hb' := hb; (try simp only [pkC] at hb'); first | (exfalso; omega) | skip)) | ((with_reducible refine awp_reg ?_); intro K hK) | ((with_reducible refine hK _ ?_); clear hK K) | (with_reducible refine and_split ?_ ?_) | ((with_reducible refine sw_id ?_); simp (disch := first | decide | omega) only [↓pkS, pkW, pkA, undef, capsOf, ex, St.put, St.ev, kav, gdA, opI, rawI, vbin, srcOf, avsD, acsD, AV.toD, AC.toD, AV.nw, AC.nw, AC.one, Value.oneCell', fillA, D.one, D.ones, D.sz, D.szs, Nat.reduceAdd, Nat.reduceSub, Nat.reduceLeDiff, Nat.reduceEqDiff, reduceIte, pkN, li_acs, ls_acs, sl_acs, GCell.acs_eq, GCell.flat_eq, GCell.agg_eq, getq_mapF]) | (first | (with_reducible rfl) | (with_reducible refine fnok_id ?_; kernel_rfl) | exact el_strs _ | exact el_ints _ | exact el_ln _ | exact el_tk _ _ | exact el_td _ _ _ | omega | (simp; done) | (simp; omega)) | ((with_reducible refine args_id ?_); simp [ArgsOk, ArgOk, argsD, argD, AC.toD, Value.oneCell', sl_flat, leaf_flat, li_flat, ls_flat, sl_agg, leaf_agg, li_agg, ls_agg, mo_t, mo_f, li_acs, ls_acs, sl_acs, GCell.acs_eq, GCell.flat_eq, GCell.agg_eq, getq_mapF]; first | done | rfl))
  refine awp_loopB (X := Nat × Nat) (fun q => [.k, .k, .d, .d, .d, .v (.c false [.own 0 q.2]), .v (.c false [.raw (.int .i64 (q.1 : Nat))]), .d, .d, .d, .d, .d, .d, .d, .d, .d, .d, .d, .d, .d, .d, .d, .d, .d, .d, .d, .d]) (fun q => [⟨(joinK l b q.1).map lu8, 5, 1, q.2, true⟩]) (fun q bs => []) (fun q => q.1 ≤ l.length) (fun q => l.length - q.1) (0, 0) (Nat.zero_le _) ?_ ?_
  · simp [StLe', FrLe, OwnLe, BoxLe, AV.fits, AC.fits, FB, mask, joinK]
  rintro ⟨k, v⟩ hk
  have hk : k ≤ l.length := hk
  simp only [FB, mask]
  by_cases hlt : k < l.length
  · have hm := joinK_le l b (show k + 1 ≤ l.length by omega)
    have hs := joinK_step (b := b) hlt
    have hsl := congrArg List.length hs
    by_cases h0 : 0 < k
    · have h0' : decide ((k : Int) > 0) = true := decide_eq_true (by omega)
      rw [if_pos h0] at hs hsl
      simp only [List.length_append, ba_size] at hsl
      repeat' (first | (with_reducible first | refine awp_seq ?_ | refine awp_block ?_ | refine awp_skip ?_ | refine awp_exit ?_ | refine awp_ret ?_ | refine athen ?_ | refine thenExit ?_ | refine thenRet ?_ | refine blockNormal ?_ | refine blockExit ?_ | refine blockRet ?_ | refine roundExit ?_ | refine roundRet ?_ | refine roundExitR ?_ | refine roundRetR ?_) | ((with_reducible refine blockPass ?_ ?_); rfl) | ((with_reducible refine awp_condT ?_ ?_); rfl) | ((with_reducible refine awp_condF ?_ ?_); rfl) | (with_reducible (refine awp_condS rfl ?_ ?_); all_goals (intro hb; have hb' := hb; (try simp only [pkC] at hb'); first | (exfalso; omega) | skip)) | ((with_reducible refine awp_reg ?_); intro K hK) | ((with_reducible refine hK _ ?_); clear hK K) | (with_reducible refine and_split ?_ ?_) | ((with_reducible refine sw_id ?_); simp (disch := first | decide | omega) only [↓pkS, pkW, pkA, undef, capsOf, ex, St.put, St.ev, kav, gdA, opI, rawI, vbin, srcOf, avsD, acsD, AV.toD, AC.toD, AV.nw, AC.nw, AC.one, Value.oneCell', fillA, D.one, D.ones, D.sz, D.szs, Nat.reduceAdd, Nat.reduceSub, Nat.reduceLeDiff, Nat.reduceEqDiff, reduceIte, pkN, li_acs, ls_acs, sl_acs, GCell.acs_eq, GCell.flat_eq, GCell.agg_eq, getq_mapF, h0', strD_len, List.length_append, List.length_map]) | (first | (with_reducible rfl) | (with_reducible refine fnok_id ?_; kernel_rfl) | exact el_strs _ | exact el_ints _ | exact el_ln _ | exact el_tk _ _ | exact el_td _ _ _ | omega | (simp; done) | (simp; omega)) | ((with_reducible refine args_id ?_); simp [ArgsOk, ArgOk, argsD, argD, AC.toD, Value.oneCell', sl_flat, leaf_flat, li_flat, ls_flat, sl_agg, leaf_agg, li_agg, ls_agg, mo_t, mo_f, li_acs, ls_acs, sl_acs, GCell.acs_eq, GCell.flat_eq, GCell.agg_eq, getq_mapF, h0', strD_len, List.length_append, List.length_map]; first | done | rfl))
      refine roundB (k + 1, v + 2) ?_ (show k + 1 ≤ l.length by omega) (show l.length - (k + 1) < l.length - k by omega)
      simp [StLe', FrLe, OwnLe, BoxLe, AV.fits, AC.fits, FB, mask, hs, strD]
    · have h0' : decide ((k : Int) > 0) = false := decide_eq_false (by omega)
      rw [if_neg h0] at hs hsl
      simp only [List.length_append, ba_size, List.length_nil] at hsl
      repeat' (first | (with_reducible first | refine awp_seq ?_ | refine awp_block ?_ | refine awp_skip ?_ | refine awp_exit ?_ | refine awp_ret ?_ | refine athen ?_ | refine thenExit ?_ | refine thenRet ?_ | refine blockNormal ?_ | refine blockExit ?_ | refine blockRet ?_ | refine roundExit ?_ | refine roundRet ?_ | refine roundExitR ?_ | refine roundRetR ?_) | ((with_reducible refine blockPass ?_ ?_); rfl) | ((with_reducible refine awp_condT ?_ ?_); rfl) | ((with_reducible refine awp_condF ?_ ?_); rfl) | (with_reducible (refine awp_condS rfl ?_ ?_); all_goals (intro hb; have hb' := hb; (try simp only [pkC] at hb'); first | (exfalso; omega) | skip)) | ((with_reducible refine awp_reg ?_); intro K hK) | ((with_reducible refine hK _ ?_); clear hK K) | (with_reducible refine and_split ?_ ?_) | ((with_reducible refine sw_id ?_); simp (disch := first | decide | omega) only [↓pkS, pkW, pkA, undef, capsOf, ex, St.put, St.ev, kav, gdA, opI, rawI, vbin, srcOf, avsD, acsD, AV.toD, AC.toD, AV.nw, AC.nw, AC.one, Value.oneCell', fillA, D.one, D.ones, D.sz, D.szs, Nat.reduceAdd, Nat.reduceSub, Nat.reduceLeDiff, Nat.reduceEqDiff, reduceIte, pkN, li_acs, ls_acs, sl_acs, GCell.acs_eq, GCell.flat_eq, GCell.agg_eq, getq_mapF, h0', strD_len, List.length_append, List.length_map]) | (first | (with_reducible rfl) | (with_reducible refine fnok_id ?_; kernel_rfl) | exact el_strs _ | exact el_ints _ | exact el_ln _ | exact el_tk _ _ | exact el_td _ _ _ | omega | (simp; done) | (simp; omega)) | ((with_reducible refine args_id ?_); simp [ArgsOk, ArgOk, argsD, argD, AC.toD, Value.oneCell', sl_flat, leaf_flat, li_flat, ls_flat, sl_agg, leaf_agg, li_agg, ls_agg, mo_t, mo_f, li_acs, ls_acs, sl_acs, GCell.acs_eq, GCell.flat_eq, GCell.agg_eq, getq_mapF, h0', strD_len, List.length_append, List.length_map]; first | done | rfl))
      refine roundB (k + 1, v + 1) ?_ (show k + 1 ≤ l.length by omega) (show l.length - (k + 1) < l.length - k by omega)
      simp [StLe', FrLe, OwnLe, BoxLe, AV.fits, AC.fits, FB, mask, hs, strD]
  obtain rfl : k = l.length := by omega
  repeat' (first | (with_reducible first | refine awp_seq ?_ | refine awp_block ?_ | refine awp_skip ?_ | refine awp_exit ?_ | refine awp_ret ?_ | refine athen ?_ | refine thenExit ?_ | refine thenRet ?_ | refine blockNormal ?_ | refine blockExit ?_ | refine blockRet ?_ | refine roundExit ?_ | refine roundRet ?_ | refine roundExitR ?_ | refine roundRetR ?_) | ((with_reducible refine blockPass ?_ ?_); rfl) | ((with_reducible refine awp_condT ?_ ?_); rfl) | ((with_reducible refine awp_condF ?_ ?_); rfl) | (with_reducible (refine awp_condS rfl ?_ ?_); all_goals (intro hb; have hb' := hb; (try simp only [pkC] at hb'); first | (exfalso; omega) | skip)) | ((with_reducible refine awp_reg ?_); intro K hK) | ((with_reducible refine hK _ ?_); clear hK K) | (with_reducible refine and_split ?_ ?_) | ((with_reducible refine sw_id ?_); simp (disch := first | decide | omega) only [↓pkS, pkW, pkA, undef, capsOf, ex, St.put, St.ev, kav, gdA, opI, rawI, vbin, srcOf, avsD, acsD, AV.toD, AC.toD, AV.nw, AC.nw, AC.one, Value.oneCell', fillA, D.one, D.ones, D.sz, D.szs, Nat.reduceAdd, Nat.reduceSub, Nat.reduceLeDiff, Nat.reduceEqDiff, reduceIte, pkN, li_acs, ls_acs, sl_acs, GCell.acs_eq, GCell.flat_eq, GCell.agg_eq, getq_mapF, bytesD_map]) | (first | (with_reducible rfl) | (with_reducible refine fnok_id ?_; kernel_rfl) | exact el_strs _ | exact el_ints _ | exact el_ln _ | exact el_tk _ _ | exact el_td _ _ _ | omega | (simp; done) | (simp; omega)) | ((with_reducible refine args_id ?_); simp [ArgsOk, ArgOk, argsD, argD, AC.toD, Value.oneCell', sl_flat, leaf_flat, li_flat, ls_flat, sl_agg, leaf_agg, li_agg, ls_agg, mo_t, mo_f, li_acs, ls_acs, sl_acs, GCell.acs_eq, GCell.flat_eq, GCell.agg_eq, getq_mapF, bytesD_map]; first | done | rfl))
  exact endRet ⟨_, rfl, rfl, trivial⟩
/-! ### Cells as text -/
theorem cell_leaf' {w : World} {x : GCell} {v : Value} (h : Rd w x.toD v) : v = .agg #[.int .i64 x.id, .int .i64 x.ver, .int .i64 x.kind, .string x.name, .string x.code, .int .i64 x.n] := by
  obtain ⟨fp, cs, rfl, h2⟩ := rd_agg x.agg_eq h
  obtain ⟨rfl, rfl⟩ := GCell.opened.1 h2
  rfl
theorem validCell_impl_to (x : GCell) (hw : x.toD.wf) : CallsTo Tryd.prog 35 [x.toD] (.c false [.raw (.bool (validCell x))]) := to_retB fun w vs hr => by
  obtain ⟨v, rfl, h1⟩ := rds1 hr
  obtain rfl := cell_leaf' h1
  exact isValidCell_impl x hw w
theorem validCell_spec_to (x : GCell) (hw : x.toD.wf) : CallsTo Tryd.prog 32 [x.toD] (.c false [.raw (.bool (validCell x))]) := to_retB fun w vs hr => by
  obtain ⟨v, rfl, h1⟩ := rds1 hr
  obtain rfl := cell_leaf' h1
  exact isValidCell_spec x hw w
def spB : ByteArray := ⟨#[32]⟩
def nameB (s : ByteArray) : ByteArray := if (s.toList == (⟨#[]⟩ : ByteArray).toList) = true then ⟨#[45]⟩ else s
def wordsC (x : GCell) : List ByteArray := [fmtI x.id, fmtI x.ver, fmtI x.kind, fmtI x.n, nameB x.name, x.code]
/-- The text of a cell. -/
def fmtCell (x : GCell) : ByteArray := if validCell x = true then joinB (wordsC x) spB else ⟨#[]⟩
theorem wordsC_eq (x : GCell) : (wordsC x).map ls = [ls (fmtI x.id), ls (fmtI x.ver), ls (fmtI x.kind), ls (fmtI x.n), ls (nameB x.name), ls x.code] := rfl
theorem joinW (x : GCell) : joinB (wordsC x) spB = fmtI x.id ++ spB ++ fmtI x.ver ++ spB ++ fmtI x.kind ++ spB ++ fmtI x.n ++ spB ++ nameB x.name ++ spB ++ x.code := by
  apply ByteArray.ext
  simp [joinB, joinK, wordsC, List.getD]
theorem valid_bounds {x : GCell} (h : validCell x = true) : (1 ≤ x.id ∧ x.id ≤ 999) ∧ (1 ≤ x.ver ∧ x.ver ≤ 999) ∧ (1 ≤ x.kind ∧ x.kind ≤ 4) ∧ (0 ≤ x.n ∧ x.n ≤ 100) := by
  unfold validCell at h
  simp only [Bool.and_eq_true] at h
  obtain ⟨⟨⟨h1, h2⟩, _⟩, h4⟩ := h
  have hr : ∀ {n a b : Int}, inR n a b = true → a ≤ n ∧ n ≤ b := fun {n a b} h => by simpa [inR] using h
  refine ⟨hr h1, hr h2, ?_, ?_⟩
  · unfold kindOk at h4
    repeat' split at h4
    all_goals first | (cases h4; done) | (simp_all; done)
  · unfold kindOk at h4
    repeat' split at h4
    all_goals first | (cases h4; done) | (simp at h4; omega) | (simp only [Bool.and_eq_true] at h4; exact hr h4.2)
theorem joinW_len {x : GCell} (h : validCell x = true) (hc : x.code.size ≤ 1048576) (hm : x.name.size ≤ 1048576) : (joinK (wordsC x) spB (wordsC x).length).length ≤ 1073741824 := by
  obtain ⟨h1, h2, h3, h4⟩ := valid_bounds h
  have e1 := fmtI_len (n := x.id) (by omega) (by omega)
  have e2 := fmtI_len (n := x.ver) (by omega) (by omega)
  have e3 := fmtI_len (n := x.kind) (by omega) (by omega)
  have e4 := fmtI_len (n := x.n) (by omega) (by omega)
  have e5 : (nameB x.name).size ≤ 1048576 := by
    unfold nameB
    split
    · decide
    · exact hm
  have e6 : spB.size = 1 := rfl
  simp only [wordsC, List.length_cons, List.length_nil, joinK, List.length_append, List.getD, List.getElem?_cons_zero, List.getElem?_cons_succ, Option.getD_some]
  simp
  omega
def ic_fc_spec : IC := (.seq (.reg false [⟨(some 1), none, .box (.t 0)⟩, ⟨(some 2), none, .mov (.k (.string ⟨#[]⟩))⟩]) (.seq (.seq (.reg false [⟨(some 4), none, .load 6 true (.t 1)⟩, ⟨(some 5), none, .call 32 [(.t 4)]⟩, ⟨(some 6), none, .not (.t 5)⟩]) (.cond (.t 6) (.seq (.reg false [⟨(some 2), none, .mov (.k (.string ⟨#[]⟩))⟩]) .ret) .skip)) (.seq (.reg false [⟨(some 7), none, .fad 3 (.t 1)⟩, ⟨(some 8), none, .load 1 false (.t 7)⟩, ⟨(some 3), none, .mov (.t 8)⟩]) (.seq (.seq (.reg false [⟨(some 9), none, .mov (.t 3)⟩, ⟨(some 10), none, .bin .eql (.t 9) (.k (.string ⟨#[]⟩))⟩]) (.cond (.t 10) (.reg false [⟨(some 3), none, .mov (.k (.string ⟨#[45]⟩))⟩]) .skip)) (.seq (.reg true [⟨(some 11), none, .fad 0 (.t 1)⟩, ⟨(some 12), none, .load 1 false (.t 11)⟩, ⟨(some 13), none, .call 34 [(.t 12)]⟩, ⟨(some 14), none, .fad 1 (.t 1)⟩, ⟨(some 15), none, .load 1 false (.t 14)⟩, ⟨(some 16), none, .call 34 [(.t 15)]⟩, ⟨(some 17), none, .fad 2 (.t 1)⟩, ⟨(some 18), none, .load 1 false (.t 17)⟩, ⟨(some 19), none, .call 34 [(.t 18)]⟩, ⟨(some 20), none, .fad 5 (.t 1)⟩, ⟨(some 21), none, .load 1 false (.t 20)⟩, ⟨(some 22), none, .call 34 [(.t 21)]⟩, ⟨(some 23), none, .mov (.t 3)⟩, ⟨(some 24), none, .fad 4 (.t 1)⟩, ⟨(some 25), none, .load 1 false (.t 24)⟩, ⟨(some 26), none, .brow false 9 1 6 false [(.t 13), (.t 16), (.t 19), (.t 22), (.t 23), (.t 25)]⟩, ⟨(some 27), none, .call 33 [(.t 26), (.k (.string ⟨#[32]⟩))]⟩, ⟨(some 2), none, .mov (.t 27)⟩]) .ret)))))
theorem ic_fc_spec_ok : compC Tryd.prog (Tryd.f10.body.getD .skip) = some ic_fc_spec := by kernel_rfl
set_option maxHeartbeats 8000000 in
theorem formatCell_spec_to (x : GCell) (hw : x.toD.wf) (hc : x.code.size ≤ 1048576) (hm : x.name.size ≤ 1048576) : CallsTo Tryd.prog 10 [x.toD] (.c false [.raw (.string (fmtCell x))]) := by
  refine calls_one (fn := Tryd.f10) (t := 2) (by kernel_rfl) (by kernel_rfl) (by kernel_rfl) ic_fc_spec_ok ?_
  unfold ic_fc_spec
  change AWP _ _ _ (st0 28 _)
  simp only [undef, stS, st0, stN, D.av, D.avN, sl_agg, leaf_agg, li_agg, ls_agg, sl_acs, leaf_acs, li_acs, ls_acs, GCell.acs_eq, GCell.flat_eq, GCell.agg_eq, List.map_cons, List.map_nil, List.replicate, List.cons_append, List.nil_append, List.length_cons, List.length_nil, Nat.reduceAdd, Nat.reduceSub]
  have hcl := validCell_spec_to x hw
  cases hv : validCell x with
  | false =>
    rw [hv] at hcl
    repeat' (first | (with_reducible first | refine awp_seq ?_ | refine awp_block ?_ | refine awp_skip ?_ | refine awp_exit ?_ | refine awp_ret ?_ | refine athen ?_ | refine thenExit ?_ | refine thenRet ?_ | refine blockNormal ?_ | refine blockExit ?_ | refine blockRet ?_ | refine roundExit ?_ | refine roundRet ?_ | refine roundExitR ?_ | refine roundRetR ?_) | ((with_reducible refine blockPass ?_ ?_); rfl) | ((with_reducible refine awp_condT ?_ ?_); rfl) | ((with_reducible refine awp_condF ?_ ?_); rfl) | (with_reducible (refine awp_condS rfl ?_ ?_); all_goals (intro hb; have hb' := hb; (try simp only [pkC] at hb'); first | (exfalso; omega) | skip)) | ((with_reducible refine awp_reg ?_); intro K hK) | ((first | ((with_reducible refine awp_regD false ?_ ?_); rfl) | ((with_reducible refine awp_regD true ?_ ?_); rfl)); intro K hK) | ((with_reducible refine hK _ ?_); clear hK K) | (with_reducible refine and_split ?_ ?_) | ((with_reducible refine ct_id ?_); first | (refine callThen hcl trivial ?_ ?_)) | ((with_reducible refine ctd_id ?_); first | (refine callThenD hcl trivial ?_ ?_)) | ((with_reducible refine sw_id ?_); simp (disch := first | decide | omega) only [↓pkS, pkW, pkA, undef, capsOf, ex, St.put, St.ev, kav, gdA, opI, rawI, vbin, srcOf, avsD, acsD, AV.toD, AC.toD, AV.nw, AC.nw, AC.one, Value.oneCell', fillA, D.one, D.ones, D.sz, D.szs, Nat.reduceAdd, Nat.reduceSub, Nat.reduceLeDiff, Nat.reduceEqDiff, reduceIte, pkN, li_acs, ls_acs, sl_acs, GCell.acs_eq, GCell.flat_eq, GCell.agg_eq, getq_mapF]) | ((with_reducible refine sd_id ?_); simp (disch := first | decide | omega) only [↓pkR, pkD, pkA, undef, capsOf, ex, St.put, St.ev, kav, gdA, opI, rawI, vbin, srcOf, avsD, acsD, AV.toD, AC.toD, AV.nw, AC.nw, AC.one, Value.oneCell', fillA, D.one, D.ones, D.sz, D.szs, Nat.reduceAdd, Nat.reduceSub, Nat.reduceLeDiff, Nat.reduceEqDiff, reduceIte, pkN, li_acs, ls_acs, sl_acs, GCell.acs_eq, GCell.flat_eq, GCell.agg_eq, getq_mapF]) | (first | (with_reducible rfl) | (with_reducible refine fnok_id ?_; kernel_rfl) | exact el_strs _ | exact el_ints _ | exact el_ln _ | exact el_tk _ _ | exact el_td _ _ _ | omega | (simp; done) | (simp; omega)) | ((with_reducible refine args_id ?_); simp [ArgsOk, ArgOk, argsD, argD, AC.toD, Value.oneCell', sl_flat, leaf_flat, li_flat, ls_flat, sl_agg, leaf_agg, li_agg, ls_agg, mo_t, mo_f, li_acs, ls_acs, sl_acs, GCell.acs_eq, GCell.flat_eq, GCell.agg_eq, getq_mapF]; first | done | rfl))
    exact endRet ⟨_, rfl, by unfold fmtCell; rw [hv]; rfl, trivial⟩
  | true =>
    rw [hv] at hcl
    obtain ⟨h1, h2, h3, h4⟩ := valid_bounds hv
    have hb := joinW_len hv hc hm
    have f1 := formatInt_spec_to (n := x.id) (by omega) (by omega)
    have f2 := formatInt_spec_to (n := x.ver) (by omega) (by omega)
    have f3 := formatInt_spec_to (n := x.kind) (by omega) (by omega)
    have f4 := formatInt_spec_to (n := x.n) (by omega) (by omega)
    have hJ : CallsTo Tryd.prog 33 [.sl [ls (fmtI x.id), ls (fmtI x.ver), ls (fmtI x.kind), ls (fmtI x.n), ls (nameB x.name), ls x.code], ls spB] (.c false [.raw (.string (joinB (wordsC x) spB))]) := by
      have := join_spec_to (wordsC x) spB hb (by simp [wordsC])
      rwa [wordsC_eq] at this
    clear hb
    have hres : fmtCell x = joinB (wordsC x) spB := by unfold fmtCell; rw [if_pos hv]
    cases hn : (x.name.toList == (⟨#[]⟩ : ByteArray).toList) with
    | true =>
      have hnm : nameB x.name = ⟨#[45]⟩ := by unfold nameB; rw [if_pos hn]
      rw [hnm] at hJ
      repeat' (first | (with_reducible first | refine awp_seq ?_ | refine awp_block ?_ | refine awp_skip ?_ | refine awp_exit ?_ | refine awp_ret ?_ | refine athen ?_ | refine thenExit ?_ | refine thenRet ?_ | refine blockNormal ?_ | refine blockExit ?_ | refine blockRet ?_ | refine roundExit ?_ | refine roundRet ?_ | refine roundExitR ?_ | refine roundRetR ?_) | ((with_reducible refine blockPass ?_ ?_); rfl) | ((with_reducible refine awp_condT ?_ ?_); rfl) | ((with_reducible refine awp_condF ?_ ?_); rfl) | (with_reducible (refine awp_condS rfl ?_ ?_); all_goals (intro hb; have hb' := hb; (try simp only [pkC] at hb'); first | (exfalso; omega) | skip)) | ((with_reducible refine awp_reg ?_); intro K hK) | ((first | ((with_reducible refine awp_regD false ?_ ?_); rfl) | ((with_reducible refine awp_regD true ?_ ?_); rfl)); intro K hK) | ((with_reducible refine hK _ ?_); clear hK K) | (with_reducible refine and_split ?_ ?_) | ((with_reducible refine ct_id ?_); first | (refine callThen hcl trivial ?_ ?_) | (refine callThen f1 trivial (by simp [ArgsOk, ArgOk, argsD, argD, AC.toD, Value.oneCell', sl_flat, leaf_flat, li_flat, ls_flat, sl_agg, leaf_agg, li_agg, ls_agg, mo_t, mo_f, li_acs, ls_acs, sl_acs, GCell.acs_eq, GCell.flat_eq, GCell.agg_eq, getq_mapF, hn, spB, ls]; first | done | rfl) ?_) | (refine callThen f2 trivial (by simp [ArgsOk, ArgOk, argsD, argD, AC.toD, Value.oneCell', sl_flat, leaf_flat, li_flat, ls_flat, sl_agg, leaf_agg, li_agg, ls_agg, mo_t, mo_f, li_acs, ls_acs, sl_acs, GCell.acs_eq, GCell.flat_eq, GCell.agg_eq, getq_mapF, hn, spB, ls]; first | done | rfl) ?_) | (refine callThen f3 trivial (by simp [ArgsOk, ArgOk, argsD, argD, AC.toD, Value.oneCell', sl_flat, leaf_flat, li_flat, ls_flat, sl_agg, leaf_agg, li_agg, ls_agg, mo_t, mo_f, li_acs, ls_acs, sl_acs, GCell.acs_eq, GCell.flat_eq, GCell.agg_eq, getq_mapF, hn, spB, ls]; first | done | rfl) ?_) | (refine callThen f4 trivial (by simp [ArgsOk, ArgOk, argsD, argD, AC.toD, Value.oneCell', sl_flat, leaf_flat, li_flat, ls_flat, sl_agg, leaf_agg, li_agg, ls_agg, mo_t, mo_f, li_acs, ls_acs, sl_acs, GCell.acs_eq, GCell.flat_eq, GCell.agg_eq, getq_mapF, hn, spB, ls]; first | done | rfl) ?_) | (refine callThen hJ trivial ?_ ?_)) | ((with_reducible refine ctd_id ?_); first | (refine callThenD hcl trivial ?_ ?_) | (refine callThenD f1 trivial (by simp [ArgsOk, ArgOk, argsD, argD, AC.toD, Value.oneCell', sl_flat, leaf_flat, li_flat, ls_flat, sl_agg, leaf_agg, li_agg, ls_agg, mo_t, mo_f, li_acs, ls_acs, sl_acs, GCell.acs_eq, GCell.flat_eq, GCell.agg_eq, getq_mapF, hn, spB, ls]; first | done | rfl) ?_) | (refine callThenD f2 trivial (by simp [ArgsOk, ArgOk, argsD, argD, AC.toD, Value.oneCell', sl_flat, leaf_flat, li_flat, ls_flat, sl_agg, leaf_agg, li_agg, ls_agg, mo_t, mo_f, li_acs, ls_acs, sl_acs, GCell.acs_eq, GCell.flat_eq, GCell.agg_eq, getq_mapF, hn, spB, ls]; first | done | rfl) ?_) | (refine callThenD f3 trivial (by simp [ArgsOk, ArgOk, argsD, argD, AC.toD, Value.oneCell', sl_flat, leaf_flat, li_flat, ls_flat, sl_agg, leaf_agg, li_agg, ls_agg, mo_t, mo_f, li_acs, ls_acs, sl_acs, GCell.acs_eq, GCell.flat_eq, GCell.agg_eq, getq_mapF, hn, spB, ls]; first | done | rfl) ?_) | (refine callThenD f4 trivial (by simp [ArgsOk, ArgOk, argsD, argD, AC.toD, Value.oneCell', sl_flat, leaf_flat, li_flat, ls_flat, sl_agg, leaf_agg, li_agg, ls_agg, mo_t, mo_f, li_acs, ls_acs, sl_acs, GCell.acs_eq, GCell.flat_eq, GCell.agg_eq, getq_mapF, hn, spB, ls]; first | done | rfl) ?_) | (refine callThenD hJ trivial ?_ ?_)) | ((with_reducible refine sw_id ?_); simp (disch := first | decide | omega) only [↓pkS, pkW, pkA, undef, capsOf, ex, St.put, St.ev, kav, gdA, opI, rawI, vbin, srcOf, avsD, acsD, AV.toD, AC.toD, AV.nw, AC.nw, AC.one, Value.oneCell', fillA, D.one, D.ones, D.sz, D.szs, Nat.reduceAdd, Nat.reduceSub, Nat.reduceLeDiff, Nat.reduceEqDiff, reduceIte, pkN, li_acs, ls_acs, sl_acs, GCell.acs_eq, GCell.flat_eq, GCell.agg_eq, getq_mapF, hn, spB, ls]) | ((with_reducible refine sd_id ?_); simp (disch := first | decide | omega) only [↓pkR, pkD, pkA, undef, capsOf, ex, St.put, St.ev, kav, gdA, opI, rawI, vbin, srcOf, avsD, acsD, AV.toD, AC.toD, AV.nw, AC.nw, AC.one, Value.oneCell', fillA, D.one, D.ones, D.sz, D.szs, Nat.reduceAdd, Nat.reduceSub, Nat.reduceLeDiff, Nat.reduceEqDiff, reduceIte, pkN, li_acs, ls_acs, sl_acs, GCell.acs_eq, GCell.flat_eq, GCell.agg_eq, getq_mapF, hn, spB, ls]) | (first | (with_reducible rfl) | (with_reducible refine fnok_id ?_; kernel_rfl) | exact el_strs _ | exact el_ints _ | exact el_ln _ | exact el_tk _ _ | exact el_td _ _ _ | omega | (simp; done) | (simp; omega)) | ((with_reducible refine args_id ?_); simp [ArgsOk, ArgOk, argsD, argD, AC.toD, Value.oneCell', sl_flat, leaf_flat, li_flat, ls_flat, sl_agg, leaf_agg, li_agg, ls_agg, mo_t, mo_f, li_acs, ls_acs, sl_acs, GCell.acs_eq, GCell.flat_eq, GCell.agg_eq, getq_mapF, hn, spB, ls]; first | done | rfl))
      exact endRet ⟨_, rfl, by rw [hres]; rfl, trivial⟩
    | false =>
      have hnm : nameB x.name = x.name := by unfold nameB; rw [if_neg (by rw [hn]; decide)]
      rw [hnm] at hJ
      repeat' (first | (with_reducible first | refine awp_seq ?_ | refine awp_block ?_ | refine awp_skip ?_ | refine awp_exit ?_ | refine awp_ret ?_ | refine athen ?_ | refine thenExit ?_ | refine thenRet ?_ | refine blockNormal ?_ | refine blockExit ?_ | refine blockRet ?_ | refine roundExit ?_ | refine roundRet ?_ | refine roundExitR ?_ | refine roundRetR ?_) | ((with_reducible refine blockPass ?_ ?_); rfl) | ((with_reducible refine awp_condT ?_ ?_); rfl) | ((with_reducible refine awp_condF ?_ ?_); rfl) | (with_reducible (refine awp_condS rfl ?_ ?_); all_goals (intro hb; have hb' := hb; (try simp only [pkC] at hb'); first | (exfalso; omega) | skip)) | ((with_reducible refine awp_reg ?_); intro K hK) | ((first | ((with_reducible refine awp_regD false ?_ ?_); rfl) | ((with_reducible refine awp_regD true ?_ ?_); rfl)); intro K hK) | ((with_reducible refine hK _ ?_); clear hK K) | (with_reducible refine and_split ?_ ?_) | ((with_reducible refine ct_id ?_); first | (refine callThen hcl trivial ?_ ?_) | (refine callThen f1 trivial (by simp [ArgsOk, ArgOk, argsD, argD, AC.toD, Value.oneCell', sl_flat, leaf_flat, li_flat, ls_flat, sl_agg, leaf_agg, li_agg, ls_agg, mo_t, mo_f, li_acs, ls_acs, sl_acs, GCell.acs_eq, GCell.flat_eq, GCell.agg_eq, getq_mapF, hn, spB, ls]; first | done | rfl) ?_) | (refine callThen f2 trivial (by simp [ArgsOk, ArgOk, argsD, argD, AC.toD, Value.oneCell', sl_flat, leaf_flat, li_flat, ls_flat, sl_agg, leaf_agg, li_agg, ls_agg, mo_t, mo_f, li_acs, ls_acs, sl_acs, GCell.acs_eq, GCell.flat_eq, GCell.agg_eq, getq_mapF, hn, spB, ls]; first | done | rfl) ?_) | (refine callThen f3 trivial (by simp [ArgsOk, ArgOk, argsD, argD, AC.toD, Value.oneCell', sl_flat, leaf_flat, li_flat, ls_flat, sl_agg, leaf_agg, li_agg, ls_agg, mo_t, mo_f, li_acs, ls_acs, sl_acs, GCell.acs_eq, GCell.flat_eq, GCell.agg_eq, getq_mapF, hn, spB, ls]; first | done | rfl) ?_) | (refine callThen f4 trivial (by simp [ArgsOk, ArgOk, argsD, argD, AC.toD, Value.oneCell', sl_flat, leaf_flat, li_flat, ls_flat, sl_agg, leaf_agg, li_agg, ls_agg, mo_t, mo_f, li_acs, ls_acs, sl_acs, GCell.acs_eq, GCell.flat_eq, GCell.agg_eq, getq_mapF, hn, spB, ls]; first | done | rfl) ?_) | (refine callThen hJ trivial ?_ ?_)) | ((with_reducible refine ctd_id ?_); first | (refine callThenD hcl trivial ?_ ?_) | (refine callThenD f1 trivial (by simp [ArgsOk, ArgOk, argsD, argD, AC.toD, Value.oneCell', sl_flat, leaf_flat, li_flat, ls_flat, sl_agg, leaf_agg, li_agg, ls_agg, mo_t, mo_f, li_acs, ls_acs, sl_acs, GCell.acs_eq, GCell.flat_eq, GCell.agg_eq, getq_mapF, hn, spB, ls]; first | done | rfl) ?_) | (refine callThenD f2 trivial (by simp [ArgsOk, ArgOk, argsD, argD, AC.toD, Value.oneCell', sl_flat, leaf_flat, li_flat, ls_flat, sl_agg, leaf_agg, li_agg, ls_agg, mo_t, mo_f, li_acs, ls_acs, sl_acs, GCell.acs_eq, GCell.flat_eq, GCell.agg_eq, getq_mapF, hn, spB, ls]; first | done | rfl) ?_) | (refine callThenD f3 trivial (by simp [ArgsOk, ArgOk, argsD, argD, AC.toD, Value.oneCell', sl_flat, leaf_flat, li_flat, ls_flat, sl_agg, leaf_agg, li_agg, ls_agg, mo_t, mo_f, li_acs, ls_acs, sl_acs, GCell.acs_eq, GCell.flat_eq, GCell.agg_eq, getq_mapF, hn, spB, ls]; first | done | rfl) ?_) | (refine callThenD f4 trivial (by simp [ArgsOk, ArgOk, argsD, argD, AC.toD, Value.oneCell', sl_flat, leaf_flat, li_flat, ls_flat, sl_agg, leaf_agg, li_agg, ls_agg, mo_t, mo_f, li_acs, ls_acs, sl_acs, GCell.acs_eq, GCell.flat_eq, GCell.agg_eq, getq_mapF, hn, spB, ls]; first | done | rfl) ?_) | (refine callThenD hJ trivial ?_ ?_)) | ((with_reducible refine sw_id ?_); simp (disch := first | decide | omega) only [↓pkS, pkW, pkA, undef, capsOf, ex, St.put, St.ev, kav, gdA, opI, rawI, vbin, srcOf, avsD, acsD, AV.toD, AC.toD, AV.nw, AC.nw, AC.one, Value.oneCell', fillA, D.one, D.ones, D.sz, D.szs, Nat.reduceAdd, Nat.reduceSub, Nat.reduceLeDiff, Nat.reduceEqDiff, reduceIte, pkN, li_acs, ls_acs, sl_acs, GCell.acs_eq, GCell.flat_eq, GCell.agg_eq, getq_mapF, hn, spB, ls]) | ((with_reducible refine sd_id ?_); simp (disch := first | decide | omega) only [↓pkR, pkD, pkA, undef, capsOf, ex, St.put, St.ev, kav, gdA, opI, rawI, vbin, srcOf, avsD, acsD, AV.toD, AC.toD, AV.nw, AC.nw, AC.one, Value.oneCell', fillA, D.one, D.ones, D.sz, D.szs, Nat.reduceAdd, Nat.reduceSub, Nat.reduceLeDiff, Nat.reduceEqDiff, reduceIte, pkN, li_acs, ls_acs, sl_acs, GCell.acs_eq, GCell.flat_eq, GCell.agg_eq, getq_mapF, hn, spB, ls]) | (first | (with_reducible rfl) | (with_reducible refine fnok_id ?_; kernel_rfl) | exact el_strs _ | exact el_ints _ | exact el_ln _ | exact el_tk _ _ | exact el_td _ _ _ | omega | (simp; done) | (simp; omega)) | ((with_reducible refine args_id ?_); simp [ArgsOk, ArgOk, argsD, argD, AC.toD, Value.oneCell', sl_flat, leaf_flat, li_flat, ls_flat, sl_agg, leaf_agg, li_agg, ls_agg, mo_t, mo_f, li_acs, ls_acs, sl_acs, GCell.acs_eq, GCell.flat_eq, GCell.agg_eq, getq_mapF, hn, spB, ls]; first | done | rfl))
      exact endRet ⟨_, rfl, by rw [hres]; rfl, trivial⟩
theorem catf2 {a b : ByteArray} (h : a.size + b.size ≤ 9223372036854775807) : (((a.size + b.size : Nat) : Int) > IntKind.i64.max) = False := by
  have e3 : IntKind.i64.max = 9223372036854775807 := by decide
  rw [e3]
  simp
  omega
theorem catf3 {a b : ByteArray} (h : a.size + b.size ≤ 9223372036854775807) : (9223372036854775807 < (((a.size : Nat) : Int) + ((b.size : Nat) : Int))) = False := by
  simp
  omega
def ic_fc_impl : IC := (.seq (.reg false [⟨(some 1), none, .box (.t 0)⟩, ⟨(some 2), none, .mov (.k (.string ⟨#[]⟩))⟩]) (.seq (.seq (.reg false [⟨(some 4), none, .load 6 true (.t 1)⟩, ⟨(some 5), none, .call 35 [(.t 4)]⟩, ⟨(some 6), none, .not (.t 5)⟩]) (.cond (.t 6) (.seq (.reg false [⟨(some 2), none, .mov (.k (.string ⟨#[]⟩))⟩]) .ret) .skip)) (.seq (.reg false [⟨(some 7), none, .fad 3 (.t 1)⟩, ⟨(some 8), none, .load 1 false (.t 7)⟩, ⟨(some 3), none, .mov (.t 8)⟩]) (.seq (.seq (.reg false [⟨(some 9), none, .mov (.t 3)⟩, ⟨(some 10), none, .bin .eql (.t 9) (.k (.string ⟨#[]⟩))⟩]) (.cond (.t 10) (.reg false [⟨(some 3), none, .mov (.k (.string ⟨#[45]⟩))⟩]) .skip)) (.seq (.reg true [⟨(some 11), none, .fad 0 (.t 1)⟩, ⟨(some 12), none, .load 1 false (.t 11)⟩, ⟨(some 13), none, .call 36 [(.t 12)]⟩, ⟨(some 14), none, .bin .add (.t 13) (.k (.string ⟨#[32]⟩))⟩, ⟨(some 15), none, .fad 1 (.t 1)⟩, ⟨(some 16), none, .load 1 false (.t 15)⟩, ⟨(some 17), none, .call 36 [(.t 16)]⟩, ⟨(some 18), none, .bin .add (.t 14) (.t 17)⟩, ⟨(some 19), none, .bin .add (.t 18) (.k (.string ⟨#[32]⟩))⟩, ⟨(some 20), none, .fad 2 (.t 1)⟩, ⟨(some 21), none, .load 1 false (.t 20)⟩, ⟨(some 22), none, .call 36 [(.t 21)]⟩, ⟨(some 23), none, .bin .add (.t 19) (.t 22)⟩, ⟨(some 24), none, .bin .add (.t 23) (.k (.string ⟨#[32]⟩))⟩, ⟨(some 25), none, .fad 5 (.t 1)⟩, ⟨(some 26), none, .load 1 false (.t 25)⟩, ⟨(some 27), none, .call 36 [(.t 26)]⟩, ⟨(some 28), none, .bin .add (.t 24) (.t 27)⟩, ⟨(some 29), none, .bin .add (.t 28) (.k (.string ⟨#[32]⟩))⟩, ⟨(some 30), none, .mov (.t 3)⟩, ⟨(some 31), none, .bin .add (.t 29) (.t 30)⟩, ⟨(some 32), none, .bin .add (.t 31) (.k (.string ⟨#[32]⟩))⟩, ⟨(some 33), none, .fad 4 (.t 1)⟩, ⟨(some 34), none, .load 1 false (.t 33)⟩, ⟨(some 35), none, .bin .add (.t 32) (.t 34)⟩, ⟨(some 2), none, .mov (.t 35)⟩]) .ret)))))
theorem ic_fc_impl_ok : compC Tryd.prog (Tryd.f12.body.getD .skip) = some ic_fc_impl := by kernel_rfl
set_option maxHeartbeats 8000000 in
theorem formatCell_impl_to (x : GCell) (hw : x.toD.wf) (hc : x.code.size ≤ 1048576) (hm : x.name.size ≤ 1048576) : CallsTo Tryd.prog 12 [x.toD] (.c false [.raw (.string (fmtCell x))]) := by
  refine calls_one (fn := Tryd.f12) (t := 2) (by kernel_rfl) (by kernel_rfl) (by kernel_rfl) ic_fc_impl_ok ?_
  unfold ic_fc_impl
  change AWP _ _ _ (st0 36 _)
  simp only [undef, stS, st0, stN, D.av, D.avN, sl_agg, leaf_agg, li_agg, ls_agg, sl_acs, leaf_acs, li_acs, ls_acs, GCell.acs_eq, GCell.flat_eq, GCell.agg_eq, List.map_cons, List.map_nil, List.replicate, List.cons_append, List.nil_append, List.length_cons, List.length_nil, Nat.reduceAdd, Nat.reduceSub]
  have hcl := validCell_impl_to x hw
  cases hv : validCell x with
  | false =>
    rw [hv] at hcl
    repeat' (first | (with_reducible first | refine awp_seq ?_ | refine awp_block ?_ | refine awp_skip ?_ | refine awp_exit ?_ | refine awp_ret ?_ | refine athen ?_ | refine thenExit ?_ | refine thenRet ?_ | refine blockNormal ?_ | refine blockExit ?_ | refine blockRet ?_ | refine roundExit ?_ | refine roundRet ?_ | refine roundExitR ?_ | refine roundRetR ?_) | ((with_reducible refine blockPass ?_ ?_); rfl) | ((with_reducible refine awp_condT ?_ ?_); rfl) | ((with_reducible refine awp_condF ?_ ?_); rfl) | (with_reducible (refine awp_condS rfl ?_ ?_); all_goals (intro hb; have hb' := hb; (try simp only [pkC] at hb'); first | (exfalso; omega) | skip)) | ((with_reducible refine awp_reg ?_); intro K hK) | ((first | ((with_reducible refine awp_regD false ?_ ?_); rfl) | ((with_reducible refine awp_regD true ?_ ?_); rfl)); intro K hK) | ((with_reducible refine hK _ ?_); clear hK K) | (with_reducible refine and_split ?_ ?_) | ((with_reducible refine ct_id ?_); first | (refine callThen hcl trivial ?_ ?_)) | ((with_reducible refine ctd_id ?_); first | (refine callThenD hcl trivial ?_ ?_)) | ((with_reducible refine sw_id ?_); simp (disch := first | decide | omega) only [↓pkS, pkW, pkA, undef, capsOf, ex, St.put, St.ev, kav, gdA, opI, rawI, vbin, srcOf, avsD, acsD, AV.toD, AC.toD, AV.nw, AC.nw, AC.one, Value.oneCell', fillA, D.one, D.ones, D.sz, D.szs, Nat.reduceAdd, Nat.reduceSub, Nat.reduceLeDiff, Nat.reduceEqDiff, reduceIte, pkN, li_acs, ls_acs, sl_acs, GCell.acs_eq, GCell.flat_eq, GCell.agg_eq, getq_mapF]) | ((with_reducible refine sd_id ?_); simp (disch := first | decide | omega) only [↓pkR, pkD, pkA, undef, capsOf, ex, St.put, St.ev, kav, gdA, opI, rawI, vbin, srcOf, avsD, acsD, AV.toD, AC.toD, AV.nw, AC.nw, AC.one, Value.oneCell', fillA, D.one, D.ones, D.sz, D.szs, Nat.reduceAdd, Nat.reduceSub, Nat.reduceLeDiff, Nat.reduceEqDiff, reduceIte, pkN, li_acs, ls_acs, sl_acs, GCell.acs_eq, GCell.flat_eq, GCell.agg_eq, getq_mapF]) | (first | (with_reducible rfl) | (with_reducible refine fnok_id ?_; kernel_rfl) | exact el_strs _ | exact el_ints _ | exact el_ln _ | exact el_tk _ _ | exact el_td _ _ _ | omega | (simp; done) | (simp; omega)) | ((with_reducible refine args_id ?_); simp [ArgsOk, ArgOk, argsD, argD, AC.toD, Value.oneCell', sl_flat, leaf_flat, li_flat, ls_flat, sl_agg, leaf_agg, li_agg, ls_agg, mo_t, mo_f, li_acs, ls_acs, sl_acs, GCell.acs_eq, GCell.flat_eq, GCell.agg_eq, getq_mapF]; first | done | rfl))
    exact endRet ⟨_, rfl, by unfold fmtCell; rw [hv]; rfl, trivial⟩
  | true =>
    rw [hv] at hcl
    obtain ⟨h1, h2, h3, h4⟩ := valid_bounds hv
    have hb := joinW_len hv hc hm
    have f1 := formatInt_impl_to (n := x.id) (by omega) (by omega)
    have f2 := formatInt_impl_to (n := x.ver) (by omega) (by omega)
    have f3 := formatInt_impl_to (n := x.kind) (by omega) (by omega)
    have f4 := formatInt_impl_to (n := x.n) (by omega) (by omega)
    have e1 := fmtI_len (n := x.id) (by omega) (by omega)
    have e2 := fmtI_len (n := x.ver) (by omega) (by omega)
    have e3 := fmtI_len (n := x.kind) (by omega) (by omega)
    have e4 := fmtI_len (n := x.n) (by omega) (by omega)
    have e5 : spB.size = 1 := rfl
    have e6 : (⟨#[45]⟩ : ByteArray).size = 1 := rfl
    clear hb
    have hres : fmtCell x = joinB (wordsC x) spB := by unfold fmtCell; rw [if_pos hv]
    cases hn : (x.name.toList == (⟨#[]⟩ : ByteArray).toList) with
    | true =>
      have hnm : nameB x.name = ⟨#[45]⟩ := by unfold nameB; rw [if_pos hn]
      rw [joinW, hnm] at hres
      have q0 := catf2 (a := fmtI x.id) (b := spB) (by first | omega | (simp only [ByteArray.size_append]; omega))
      have r0 := catf3 (a := fmtI x.id) (b := spB) (by first | omega | (simp only [ByteArray.size_append]; omega))
      have q1 := catf2 (a := (fmtI x.id ++ spB)) (b := fmtI x.ver) (by first | omega | (simp only [ByteArray.size_append]; omega))
      have r1 := catf3 (a := (fmtI x.id ++ spB)) (b := fmtI x.ver) (by first | omega | (simp only [ByteArray.size_append]; omega))
      have q2 := catf2 (a := ((fmtI x.id ++ spB) ++ fmtI x.ver)) (b := spB) (by first | omega | (simp only [ByteArray.size_append]; omega))
      have r2 := catf3 (a := ((fmtI x.id ++ spB) ++ fmtI x.ver)) (b := spB) (by first | omega | (simp only [ByteArray.size_append]; omega))
      have q3 := catf2 (a := (((fmtI x.id ++ spB) ++ fmtI x.ver) ++ spB)) (b := fmtI x.kind) (by first | omega | (simp only [ByteArray.size_append]; omega))
      have r3 := catf3 (a := (((fmtI x.id ++ spB) ++ fmtI x.ver) ++ spB)) (b := fmtI x.kind) (by first | omega | (simp only [ByteArray.size_append]; omega))
      have q4 := catf2 (a := ((((fmtI x.id ++ spB) ++ fmtI x.ver) ++ spB) ++ fmtI x.kind)) (b := spB) (by first | omega | (simp only [ByteArray.size_append]; omega))
      have r4 := catf3 (a := ((((fmtI x.id ++ spB) ++ fmtI x.ver) ++ spB) ++ fmtI x.kind)) (b := spB) (by first | omega | (simp only [ByteArray.size_append]; omega))
      have q5 := catf2 (a := (((((fmtI x.id ++ spB) ++ fmtI x.ver) ++ spB) ++ fmtI x.kind) ++ spB)) (b := fmtI x.n) (by first | omega | (simp only [ByteArray.size_append]; omega))
      have r5 := catf3 (a := (((((fmtI x.id ++ spB) ++ fmtI x.ver) ++ spB) ++ fmtI x.kind) ++ spB)) (b := fmtI x.n) (by first | omega | (simp only [ByteArray.size_append]; omega))
      have q6 := catf2 (a := ((((((fmtI x.id ++ spB) ++ fmtI x.ver) ++ spB) ++ fmtI x.kind) ++ spB) ++ fmtI x.n)) (b := spB) (by first | omega | (simp only [ByteArray.size_append]; omega))
      have r6 := catf3 (a := ((((((fmtI x.id ++ spB) ++ fmtI x.ver) ++ spB) ++ fmtI x.kind) ++ spB) ++ fmtI x.n)) (b := spB) (by first | omega | (simp only [ByteArray.size_append]; omega))
      have q7 := catf2 (a := (((((((fmtI x.id ++ spB) ++ fmtI x.ver) ++ spB) ++ fmtI x.kind) ++ spB) ++ fmtI x.n) ++ spB)) (b := (⟨#[45]⟩ : ByteArray)) (by first | omega | (simp only [ByteArray.size_append]; omega))
      have r7 := catf3 (a := (((((((fmtI x.id ++ spB) ++ fmtI x.ver) ++ spB) ++ fmtI x.kind) ++ spB) ++ fmtI x.n) ++ spB)) (b := (⟨#[45]⟩ : ByteArray)) (by first | omega | (simp only [ByteArray.size_append]; omega))
      have q8 := catf2 (a := ((((((((fmtI x.id ++ spB) ++ fmtI x.ver) ++ spB) ++ fmtI x.kind) ++ spB) ++ fmtI x.n) ++ spB) ++ (⟨#[45]⟩ : ByteArray))) (b := spB) (by first | omega | (simp only [ByteArray.size_append]; omega))
      have r8 := catf3 (a := ((((((((fmtI x.id ++ spB) ++ fmtI x.ver) ++ spB) ++ fmtI x.kind) ++ spB) ++ fmtI x.n) ++ spB) ++ (⟨#[45]⟩ : ByteArray))) (b := spB) (by first | omega | (simp only [ByteArray.size_append]; omega))
      have q9 := catf2 (a := (((((((((fmtI x.id ++ spB) ++ fmtI x.ver) ++ spB) ++ fmtI x.kind) ++ spB) ++ fmtI x.n) ++ spB) ++ (⟨#[45]⟩ : ByteArray)) ++ spB)) (b := x.code) (by first | omega | (simp only [ByteArray.size_append]; omega))
      have r9 := catf3 (a := (((((((((fmtI x.id ++ spB) ++ fmtI x.ver) ++ spB) ++ fmtI x.kind) ++ spB) ++ fmtI x.n) ++ spB) ++ (⟨#[45]⟩ : ByteArray)) ++ spB)) (b := x.code) (by first | omega | (simp only [ByteArray.size_append]; omega))
      simp only [spB] at q0 r0 q1 r1 q2 r2 q3 r3 q4 r4 q5 r5 q6 r6 q7 r7 q8 r8 q9 r9
      repeat' (first | (with_reducible first | refine awp_seq ?_ | refine awp_block ?_ | refine awp_skip ?_ | refine awp_exit ?_ | refine awp_ret ?_ | refine athen ?_ | refine thenExit ?_ | refine thenRet ?_ | refine blockNormal ?_ | refine blockExit ?_ | refine blockRet ?_ | refine roundExit ?_ | refine roundRet ?_ | refine roundExitR ?_ | refine roundRetR ?_) | ((with_reducible refine blockPass ?_ ?_); rfl) | ((with_reducible refine awp_condT ?_ ?_); rfl) | ((with_reducible refine awp_condF ?_ ?_); rfl) | (with_reducible (refine awp_condS rfl ?_ ?_); all_goals (intro hb; have hb' := hb; (try simp only [pkC] at hb'); first | (exfalso; omega) | skip)) | ((with_reducible refine awp_reg ?_); intro K hK) | ((first | ((with_reducible refine awp_regD false ?_ ?_); rfl) | ((with_reducible refine awp_regD true ?_ ?_); rfl)); intro K hK) | ((with_reducible refine hK _ ?_); clear hK K) | (with_reducible refine and_split ?_ ?_) | ((with_reducible refine ct_id ?_); first | (refine callThen hcl trivial ?_ ?_) | (refine callThen f1 trivial (by simp [ArgsOk, ArgOk, argsD, argD, AC.toD, Value.oneCell', sl_flat, leaf_flat, li_flat, ls_flat, sl_agg, leaf_agg, li_agg, ls_agg, mo_t, mo_f, li_acs, ls_acs, sl_acs, GCell.acs_eq, GCell.flat_eq, GCell.agg_eq, getq_mapF, hn, q0, r0, q1, r1, q2, r2, q3, r3, q4, r4, q5, r5, q6, r6, q7, r7, q8, r8, q9, r9]; first | done | rfl) ?_) | (refine callThen f2 trivial (by simp [ArgsOk, ArgOk, argsD, argD, AC.toD, Value.oneCell', sl_flat, leaf_flat, li_flat, ls_flat, sl_agg, leaf_agg, li_agg, ls_agg, mo_t, mo_f, li_acs, ls_acs, sl_acs, GCell.acs_eq, GCell.flat_eq, GCell.agg_eq, getq_mapF, hn, q0, r0, q1, r1, q2, r2, q3, r3, q4, r4, q5, r5, q6, r6, q7, r7, q8, r8, q9, r9]; first | done | rfl) ?_) | (refine callThen f3 trivial (by simp [ArgsOk, ArgOk, argsD, argD, AC.toD, Value.oneCell', sl_flat, leaf_flat, li_flat, ls_flat, sl_agg, leaf_agg, li_agg, ls_agg, mo_t, mo_f, li_acs, ls_acs, sl_acs, GCell.acs_eq, GCell.flat_eq, GCell.agg_eq, getq_mapF, hn, q0, r0, q1, r1, q2, r2, q3, r3, q4, r4, q5, r5, q6, r6, q7, r7, q8, r8, q9, r9]; first | done | rfl) ?_) | (refine callThen f4 trivial (by simp [ArgsOk, ArgOk, argsD, argD, AC.toD, Value.oneCell', sl_flat, leaf_flat, li_flat, ls_flat, sl_agg, leaf_agg, li_agg, ls_agg, mo_t, mo_f, li_acs, ls_acs, sl_acs, GCell.acs_eq, GCell.flat_eq, GCell.agg_eq, getq_mapF, hn, q0, r0, q1, r1, q2, r2, q3, r3, q4, r4, q5, r5, q6, r6, q7, r7, q8, r8, q9, r9]; first | done | rfl) ?_)) | ((with_reducible refine ctd_id ?_); first | (refine callThenD hcl trivial ?_ ?_) | (refine callThenD f1 trivial (by simp [ArgsOk, ArgOk, argsD, argD, AC.toD, Value.oneCell', sl_flat, leaf_flat, li_flat, ls_flat, sl_agg, leaf_agg, li_agg, ls_agg, mo_t, mo_f, li_acs, ls_acs, sl_acs, GCell.acs_eq, GCell.flat_eq, GCell.agg_eq, getq_mapF, hn, q0, r0, q1, r1, q2, r2, q3, r3, q4, r4, q5, r5, q6, r6, q7, r7, q8, r8, q9, r9]; first | done | rfl) ?_) | (refine callThenD f2 trivial (by simp [ArgsOk, ArgOk, argsD, argD, AC.toD, Value.oneCell', sl_flat, leaf_flat, li_flat, ls_flat, sl_agg, leaf_agg, li_agg, ls_agg, mo_t, mo_f, li_acs, ls_acs, sl_acs, GCell.acs_eq, GCell.flat_eq, GCell.agg_eq, getq_mapF, hn, q0, r0, q1, r1, q2, r2, q3, r3, q4, r4, q5, r5, q6, r6, q7, r7, q8, r8, q9, r9]; first | done | rfl) ?_) | (refine callThenD f3 trivial (by simp [ArgsOk, ArgOk, argsD, argD, AC.toD, Value.oneCell', sl_flat, leaf_flat, li_flat, ls_flat, sl_agg, leaf_agg, li_agg, ls_agg, mo_t, mo_f, li_acs, ls_acs, sl_acs, GCell.acs_eq, GCell.flat_eq, GCell.agg_eq, getq_mapF, hn, q0, r0, q1, r1, q2, r2, q3, r3, q4, r4, q5, r5, q6, r6, q7, r7, q8, r8, q9, r9]; first | done | rfl) ?_) | (refine callThenD f4 trivial (by simp [ArgsOk, ArgOk, argsD, argD, AC.toD, Value.oneCell', sl_flat, leaf_flat, li_flat, ls_flat, sl_agg, leaf_agg, li_agg, ls_agg, mo_t, mo_f, li_acs, ls_acs, sl_acs, GCell.acs_eq, GCell.flat_eq, GCell.agg_eq, getq_mapF, hn, q0, r0, q1, r1, q2, r2, q3, r3, q4, r4, q5, r5, q6, r6, q7, r7, q8, r8, q9, r9]; first | done | rfl) ?_)) | ((with_reducible refine sw_id ?_); simp (disch := first | decide | omega) only [↓pkS, pkW, pkA, undef, capsOf, ex, St.put, St.ev, kav, gdA, opI, rawI, vbin, srcOf, avsD, acsD, AV.toD, AC.toD, AV.nw, AC.nw, AC.one, Value.oneCell', fillA, D.one, D.ones, D.sz, D.szs, Nat.reduceAdd, Nat.reduceSub, Nat.reduceLeDiff, Nat.reduceEqDiff, reduceIte, pkN, li_acs, ls_acs, sl_acs, GCell.acs_eq, GCell.flat_eq, GCell.agg_eq, getq_mapF, hn, q0, r0, q1, r1, q2, r2, q3, r3, q4, r4, q5, r5, q6, r6, q7, r7, q8, r8, q9, r9]) | ((with_reducible refine sd_id ?_); simp (disch := first | decide | omega) only [↓pkR, pkD, pkA, undef, capsOf, ex, St.put, St.ev, kav, gdA, opI, rawI, vbin, srcOf, avsD, acsD, AV.toD, AC.toD, AV.nw, AC.nw, AC.one, Value.oneCell', fillA, D.one, D.ones, D.sz, D.szs, Nat.reduceAdd, Nat.reduceSub, Nat.reduceLeDiff, Nat.reduceEqDiff, reduceIte, pkN, li_acs, ls_acs, sl_acs, GCell.acs_eq, GCell.flat_eq, GCell.agg_eq, getq_mapF, hn, q0, r0, q1, r1, q2, r2, q3, r3, q4, r4, q5, r5, q6, r6, q7, r7, q8, r8, q9, r9]) | (first | (with_reducible rfl) | (with_reducible refine fnok_id ?_; kernel_rfl) | exact el_strs _ | exact el_ints _ | exact el_ln _ | exact el_tk _ _ | exact el_td _ _ _ | omega | (simp; done) | (simp; omega)) | ((with_reducible refine args_id ?_); simp [ArgsOk, ArgOk, argsD, argD, AC.toD, Value.oneCell', sl_flat, leaf_flat, li_flat, ls_flat, sl_agg, leaf_agg, li_agg, ls_agg, mo_t, mo_f, li_acs, ls_acs, sl_acs, GCell.acs_eq, GCell.flat_eq, GCell.agg_eq, getq_mapF, hn, q0, r0, q1, r1, q2, r2, q3, r3, q4, r4, q5, r5, q6, r6, q7, r7, q8, r8, q9, r9]; first | done | rfl))
      exact endRet ⟨_, rfl, by rw [hres]; rfl, trivial⟩
    | false =>
      have hnm : nameB x.name = x.name := by unfold nameB; rw [if_neg (by rw [hn]; decide)]
      rw [joinW, hnm] at hres
      have q0 := catf2 (a := fmtI x.id) (b := spB) (by first | omega | (simp only [ByteArray.size_append]; omega))
      have r0 := catf3 (a := fmtI x.id) (b := spB) (by first | omega | (simp only [ByteArray.size_append]; omega))
      have q1 := catf2 (a := (fmtI x.id ++ spB)) (b := fmtI x.ver) (by first | omega | (simp only [ByteArray.size_append]; omega))
      have r1 := catf3 (a := (fmtI x.id ++ spB)) (b := fmtI x.ver) (by first | omega | (simp only [ByteArray.size_append]; omega))
      have q2 := catf2 (a := ((fmtI x.id ++ spB) ++ fmtI x.ver)) (b := spB) (by first | omega | (simp only [ByteArray.size_append]; omega))
      have r2 := catf3 (a := ((fmtI x.id ++ spB) ++ fmtI x.ver)) (b := spB) (by first | omega | (simp only [ByteArray.size_append]; omega))
      have q3 := catf2 (a := (((fmtI x.id ++ spB) ++ fmtI x.ver) ++ spB)) (b := fmtI x.kind) (by first | omega | (simp only [ByteArray.size_append]; omega))
      have r3 := catf3 (a := (((fmtI x.id ++ spB) ++ fmtI x.ver) ++ spB)) (b := fmtI x.kind) (by first | omega | (simp only [ByteArray.size_append]; omega))
      have q4 := catf2 (a := ((((fmtI x.id ++ spB) ++ fmtI x.ver) ++ spB) ++ fmtI x.kind)) (b := spB) (by first | omega | (simp only [ByteArray.size_append]; omega))
      have r4 := catf3 (a := ((((fmtI x.id ++ spB) ++ fmtI x.ver) ++ spB) ++ fmtI x.kind)) (b := spB) (by first | omega | (simp only [ByteArray.size_append]; omega))
      have q5 := catf2 (a := (((((fmtI x.id ++ spB) ++ fmtI x.ver) ++ spB) ++ fmtI x.kind) ++ spB)) (b := fmtI x.n) (by first | omega | (simp only [ByteArray.size_append]; omega))
      have r5 := catf3 (a := (((((fmtI x.id ++ spB) ++ fmtI x.ver) ++ spB) ++ fmtI x.kind) ++ spB)) (b := fmtI x.n) (by first | omega | (simp only [ByteArray.size_append]; omega))
      have q6 := catf2 (a := ((((((fmtI x.id ++ spB) ++ fmtI x.ver) ++ spB) ++ fmtI x.kind) ++ spB) ++ fmtI x.n)) (b := spB) (by first | omega | (simp only [ByteArray.size_append]; omega))
      have r6 := catf3 (a := ((((((fmtI x.id ++ spB) ++ fmtI x.ver) ++ spB) ++ fmtI x.kind) ++ spB) ++ fmtI x.n)) (b := spB) (by first | omega | (simp only [ByteArray.size_append]; omega))
      have q7 := catf2 (a := (((((((fmtI x.id ++ spB) ++ fmtI x.ver) ++ spB) ++ fmtI x.kind) ++ spB) ++ fmtI x.n) ++ spB)) (b := x.name) (by first | omega | (simp only [ByteArray.size_append]; omega))
      have r7 := catf3 (a := (((((((fmtI x.id ++ spB) ++ fmtI x.ver) ++ spB) ++ fmtI x.kind) ++ spB) ++ fmtI x.n) ++ spB)) (b := x.name) (by first | omega | (simp only [ByteArray.size_append]; omega))
      have q8 := catf2 (a := ((((((((fmtI x.id ++ spB) ++ fmtI x.ver) ++ spB) ++ fmtI x.kind) ++ spB) ++ fmtI x.n) ++ spB) ++ x.name)) (b := spB) (by first | omega | (simp only [ByteArray.size_append]; omega))
      have r8 := catf3 (a := ((((((((fmtI x.id ++ spB) ++ fmtI x.ver) ++ spB) ++ fmtI x.kind) ++ spB) ++ fmtI x.n) ++ spB) ++ x.name)) (b := spB) (by first | omega | (simp only [ByteArray.size_append]; omega))
      have q9 := catf2 (a := (((((((((fmtI x.id ++ spB) ++ fmtI x.ver) ++ spB) ++ fmtI x.kind) ++ spB) ++ fmtI x.n) ++ spB) ++ x.name) ++ spB)) (b := x.code) (by first | omega | (simp only [ByteArray.size_append]; omega))
      have r9 := catf3 (a := (((((((((fmtI x.id ++ spB) ++ fmtI x.ver) ++ spB) ++ fmtI x.kind) ++ spB) ++ fmtI x.n) ++ spB) ++ x.name) ++ spB)) (b := x.code) (by first | omega | (simp only [ByteArray.size_append]; omega))
      simp only [spB] at q0 r0 q1 r1 q2 r2 q3 r3 q4 r4 q5 r5 q6 r6 q7 r7 q8 r8 q9 r9
      repeat' (first | (with_reducible first | refine awp_seq ?_ | refine awp_block ?_ | refine awp_skip ?_ | refine awp_exit ?_ | refine awp_ret ?_ | refine athen ?_ | refine thenExit ?_ | refine thenRet ?_ | refine blockNormal ?_ | refine blockExit ?_ | refine blockRet ?_ | refine roundExit ?_ | refine roundRet ?_ | refine roundExitR ?_ | refine roundRetR ?_) | ((with_reducible refine blockPass ?_ ?_); rfl) | ((with_reducible refine awp_condT ?_ ?_); rfl) | ((with_reducible refine awp_condF ?_ ?_); rfl) | (with_reducible (refine awp_condS rfl ?_ ?_); all_goals (intro hb; have hb' := hb; (try simp only [pkC] at hb'); first | (exfalso; omega) | skip)) | ((with_reducible refine awp_reg ?_); intro K hK) | ((first | ((with_reducible refine awp_regD false ?_ ?_); rfl) | ((with_reducible refine awp_regD true ?_ ?_); rfl)); intro K hK) | ((with_reducible refine hK _ ?_); clear hK K) | (with_reducible refine and_split ?_ ?_) | ((with_reducible refine ct_id ?_); first | (refine callThen hcl trivial ?_ ?_) | (refine callThen f1 trivial (by simp [ArgsOk, ArgOk, argsD, argD, AC.toD, Value.oneCell', sl_flat, leaf_flat, li_flat, ls_flat, sl_agg, leaf_agg, li_agg, ls_agg, mo_t, mo_f, li_acs, ls_acs, sl_acs, GCell.acs_eq, GCell.flat_eq, GCell.agg_eq, getq_mapF, hn, q0, r0, q1, r1, q2, r2, q3, r3, q4, r4, q5, r5, q6, r6, q7, r7, q8, r8, q9, r9]; first | done | rfl) ?_) | (refine callThen f2 trivial (by simp [ArgsOk, ArgOk, argsD, argD, AC.toD, Value.oneCell', sl_flat, leaf_flat, li_flat, ls_flat, sl_agg, leaf_agg, li_agg, ls_agg, mo_t, mo_f, li_acs, ls_acs, sl_acs, GCell.acs_eq, GCell.flat_eq, GCell.agg_eq, getq_mapF, hn, q0, r0, q1, r1, q2, r2, q3, r3, q4, r4, q5, r5, q6, r6, q7, r7, q8, r8, q9, r9]; first | done | rfl) ?_) | (refine callThen f3 trivial (by simp [ArgsOk, ArgOk, argsD, argD, AC.toD, Value.oneCell', sl_flat, leaf_flat, li_flat, ls_flat, sl_agg, leaf_agg, li_agg, ls_agg, mo_t, mo_f, li_acs, ls_acs, sl_acs, GCell.acs_eq, GCell.flat_eq, GCell.agg_eq, getq_mapF, hn, q0, r0, q1, r1, q2, r2, q3, r3, q4, r4, q5, r5, q6, r6, q7, r7, q8, r8, q9, r9]; first | done | rfl) ?_) | (refine callThen f4 trivial (by simp [ArgsOk, ArgOk, argsD, argD, AC.toD, Value.oneCell', sl_flat, leaf_flat, li_flat, ls_flat, sl_agg, leaf_agg, li_agg, ls_agg, mo_t, mo_f, li_acs, ls_acs, sl_acs, GCell.acs_eq, GCell.flat_eq, GCell.agg_eq, getq_mapF, hn, q0, r0, q1, r1, q2, r2, q3, r3, q4, r4, q5, r5, q6, r6, q7, r7, q8, r8, q9, r9]; first | done | rfl) ?_)) | ((with_reducible refine ctd_id ?_); first | (refine callThenD hcl trivial ?_ ?_) | (refine callThenD f1 trivial (by simp [ArgsOk, ArgOk, argsD, argD, AC.toD, Value.oneCell', sl_flat, leaf_flat, li_flat, ls_flat, sl_agg, leaf_agg, li_agg, ls_agg, mo_t, mo_f, li_acs, ls_acs, sl_acs, GCell.acs_eq, GCell.flat_eq, GCell.agg_eq, getq_mapF, hn, q0, r0, q1, r1, q2, r2, q3, r3, q4, r4, q5, r5, q6, r6, q7, r7, q8, r8, q9, r9]; first | done | rfl) ?_) | (refine callThenD f2 trivial (by simp [ArgsOk, ArgOk, argsD, argD, AC.toD, Value.oneCell', sl_flat, leaf_flat, li_flat, ls_flat, sl_agg, leaf_agg, li_agg, ls_agg, mo_t, mo_f, li_acs, ls_acs, sl_acs, GCell.acs_eq, GCell.flat_eq, GCell.agg_eq, getq_mapF, hn, q0, r0, q1, r1, q2, r2, q3, r3, q4, r4, q5, r5, q6, r6, q7, r7, q8, r8, q9, r9]; first | done | rfl) ?_) | (refine callThenD f3 trivial (by simp [ArgsOk, ArgOk, argsD, argD, AC.toD, Value.oneCell', sl_flat, leaf_flat, li_flat, ls_flat, sl_agg, leaf_agg, li_agg, ls_agg, mo_t, mo_f, li_acs, ls_acs, sl_acs, GCell.acs_eq, GCell.flat_eq, GCell.agg_eq, getq_mapF, hn, q0, r0, q1, r1, q2, r2, q3, r3, q4, r4, q5, r5, q6, r6, q7, r7, q8, r8, q9, r9]; first | done | rfl) ?_) | (refine callThenD f4 trivial (by simp [ArgsOk, ArgOk, argsD, argD, AC.toD, Value.oneCell', sl_flat, leaf_flat, li_flat, ls_flat, sl_agg, leaf_agg, li_agg, ls_agg, mo_t, mo_f, li_acs, ls_acs, sl_acs, GCell.acs_eq, GCell.flat_eq, GCell.agg_eq, getq_mapF, hn, q0, r0, q1, r1, q2, r2, q3, r3, q4, r4, q5, r5, q6, r6, q7, r7, q8, r8, q9, r9]; first | done | rfl) ?_)) | ((with_reducible refine sw_id ?_); simp (disch := first | decide | omega) only [↓pkS, pkW, pkA, undef, capsOf, ex, St.put, St.ev, kav, gdA, opI, rawI, vbin, srcOf, avsD, acsD, AV.toD, AC.toD, AV.nw, AC.nw, AC.one, Value.oneCell', fillA, D.one, D.ones, D.sz, D.szs, Nat.reduceAdd, Nat.reduceSub, Nat.reduceLeDiff, Nat.reduceEqDiff, reduceIte, pkN, li_acs, ls_acs, sl_acs, GCell.acs_eq, GCell.flat_eq, GCell.agg_eq, getq_mapF, hn, q0, r0, q1, r1, q2, r2, q3, r3, q4, r4, q5, r5, q6, r6, q7, r7, q8, r8, q9, r9]) | ((with_reducible refine sd_id ?_); simp (disch := first | decide | omega) only [↓pkR, pkD, pkA, undef, capsOf, ex, St.put, St.ev, kav, gdA, opI, rawI, vbin, srcOf, avsD, acsD, AV.toD, AC.toD, AV.nw, AC.nw, AC.one, Value.oneCell', fillA, D.one, D.ones, D.sz, D.szs, Nat.reduceAdd, Nat.reduceSub, Nat.reduceLeDiff, Nat.reduceEqDiff, reduceIte, pkN, li_acs, ls_acs, sl_acs, GCell.acs_eq, GCell.flat_eq, GCell.agg_eq, getq_mapF, hn, q0, r0, q1, r1, q2, r2, q3, r3, q4, r4, q5, r5, q6, r6, q7, r7, q8, r8, q9, r9]) | (first | (with_reducible rfl) | (with_reducible refine fnok_id ?_; kernel_rfl) | exact el_strs _ | exact el_ints _ | exact el_ln _ | exact el_tk _ _ | exact el_td _ _ _ | omega | (simp; done) | (simp; omega)) | ((with_reducible refine args_id ?_); simp [ArgsOk, ArgOk, argsD, argD, AC.toD, Value.oneCell', sl_flat, leaf_flat, li_flat, ls_flat, sl_agg, leaf_agg, li_agg, ls_agg, mo_t, mo_f, li_acs, ls_acs, sl_acs, GCell.acs_eq, GCell.flat_eq, GCell.agg_eq, getq_mapF, hn, q0, r0, q1, r1, q2, r2, q3, r3, q4, r4, q5, r5, q6, r6, q7, r7, q8, r8, q9, r9]; first | done | rfl))
      exact endRet ⟨_, rfl, by rw [hres]; rfl, trivial⟩
theorem formatCell_spec_law (x : GCell) (hw : x.toD.wf) (hc : x.code.size ≤ 1048576) (hm : x.name.size ≤ 1048576) (fp : List Nat) (cs : List Value) (w : World) (h : R w x.toD fp cs) (ht : TabP w) : Calls Tryd.prog 10 #[.agg cs.toArray] w (RetB (.string (fmtCell x)) w) :=
  of_raw (formatCell_spec_to x hw hc hm) (vs := [.agg cs.toArray]) ⟨rd_of_agg x.agg_eq h, trivial⟩ ht
theorem formatCell_impl_law (x : GCell) (hw : x.toD.wf) (hc : x.code.size ≤ 1048576) (hm : x.name.size ≤ 1048576) (fp : List Nat) (cs : List Value) (w : World) (h : R w x.toD fp cs) (ht : TabP w) : Calls Tryd.prog 12 #[.agg cs.toArray] w (RetB (.string (fmtCell x)) w) :=
  of_raw (formatCell_impl_to x hw hc hm) (vs := [.agg cs.toArray]) ⟨rd_of_agg x.agg_eq h, trivial⟩ ht
end Go.Proofs.YtdjcflnemnknaaaDoor

namespace Go.Proofs.YtdjcflnemnknaaaDoor
open Go.RowKit
set_option linter.unusedSimpArgs false
set_option linter.unusedVariables false
theorem join_cons2 (x y : List UInt8) (r : List (List UInt8)) (sep : List UInt8) : Lib.join (x :: y :: r) sep = x ++ (sep ++ Lib.join (y :: r) sep) := by
  simp [Lib.join, List.intercalate, List.intersperse]
theorem join_snoc (sep x : List UInt8) : ∀ (xs : List (List UInt8)), Lib.join (xs ++ [x]) sep = Lib.join xs sep ++ ((if 0 < xs.length then sep else []) ++ x)
  | [] => by simp [Lib.join, List.intercalate]
  | [y] => by simp [Lib.join, List.intercalate, List.intersperse]
  | y :: z :: r => by
    have ih := join_snoc sep x (z :: r)
    simp only [List.cons_append] at ih ⊢
    rw [join_cons2, join_cons2, ih]
    simp
theorem joinK_join (l : List ByteArray) (b : ByteArray) : ∀ k, k ≤ l.length → joinK l b k = Lib.join ((l.take k).map (·.data.toList)) b.data.toList
  | 0, _ => by simp [joinK, Lib.join, List.intercalate]
  | k + 1, h => by
    rw [List.take_succ_eq_append_getElem (by omega), List.map_append, List.map_cons, List.map_nil, join_snoc, ← joinK_join l b k (by omega), joinK]
    simp [List.getD_eq_getElem?_getD, show k < l.length by omega, Nat.min_eq_left (show k ≤ l.length by omega)]
theorem joinB_eq (l : List ByteArray) (b : ByteArray) : joinB l b = ⟨(Lib.join (l.map (·.data.toList)) b.data.toList).toArray⟩ := by
  unfold joinB
  rw [joinK_join l b l.length (Nat.le_refl _), List.take_length]
theorem joinB_size (l : List ByteArray) (b : ByteArray) : (joinB l b).size = (joinK l b l.length).length := by simp [joinB, ByteArray.size]
theorem joinK_bound {l : List ByteArray} {b : ByteArray} {m : Nat} (h : ∀ s ∈ l, s.size ≤ m) : ∀ k, (joinK l b k).length ≤ k * (m + b.size)
  | 0 => by simp [joinK]
  | k + 1 => by
    have ih := joinK_bound (b := b) h k
    rw [joinK, List.length_append, List.length_append, Nat.succ_mul]
    have h1 : (if 0 < k then b.data.toList else []).length ≤ b.size := by split <;> simp
    have h2 : (l.getD k ⟨#[]⟩).data.toList.length ≤ m := by
      by_cases hk : k < l.length
      · rw [List.getD_eq_getElem?_getD, List.getElem?_eq_getElem hk]
        have := h _ (List.getElem_mem hk)
        simpa using this
      · rw [List.getD_eq_getElem?_getD, List.getElem?_eq_none (by omega)]
        simp
    omega
theorem rs_strs {w : World} : ∀ {l : List ByteArray} {fp : List Nat} {cs : List Value}, Rs w (l.map ls) fp cs → cs = l.map Value.string
  | [], _, _, h => h.2
  | s :: l, fp, cs, h => by
    rw [List.map_cons, show ls s = .leaf (.string s) from rfl, Rs_leaf] at h
    obtain ⟨c, rfl, h2⟩ := h
    rw [rs_strs h2]
    rfl
theorem sjoin_to (l : List ByteArray) (b : ByteArray) (hb : (joinK l b l.length).length ≤ 1073741824) (hn : l.length ≤ 4194304) : CallsTo Tryd.prog 87 [.sl (l.map ls), ls b] (.c false [.raw (.string (joinB l b))]) := to_retB fun w vs hr => by
  obtain ⟨v, u, rfl, h1, h2⟩ := rds2 hr
  obtain ⟨fp, hS⟩ := rd_sl h1
  obtain rfl := rd_leaf h2
  unfold Sl at hS
  rw [R] at hS
  obtain ⟨Ad, cap, hv, hc, _, h3⟩ := hS
  simp only [List.cons.injEq, and_true, List.length_map] at hv hc
  subst hv
  rcases h3 with ⟨h4, _⟩ | ⟨bk, o, fp', cs', rfl, rfl, hbk, hrs, hat⟩
  · obtain rfl : l = [] := by simpa using h4
    exact (Tryd.strings_Join_none Ad cap b w).mono fun e w' ⟨he, hw⟩ => ⟨he, hw ▸ Below.refl _ _⟩
  · have e := rs_strs hrs
    subst e
    have hj : joinK l b l.length = Lib.join (l.map (·.data.toList)) b.data.toList := by
      have := joinK_join l b l.length (Nat.le_refl _)
      rwa [List.take_length] at this
    rw [joinB_eq]
    exact Tryd.strings_Join bk o cap l b w (fun j x hx => hat j _ (by rw [List.getElem?_map, hx]; rfl)) hbk (by omega) hc (by rw [← hj]; omega)
def ic_join_impl : IC := (.seq (.reg false [⟨(some 4), none, .mov (.k (.string ⟨#[]⟩))⟩]) (.seq (.reg false [⟨(some 5), none, .mov (.t 0)⟩, ⟨(some 6), none, .mov (.t 1)⟩, ⟨(some 7), none, .call 87 [(.t 5), (.t 6)]⟩, ⟨(some 4), none, .mov (.t 7)⟩]) .ret))
theorem ic_join_impl_ok : compC Tryd.prog (Tryd.f50.body.getD .skip) = some ic_join_impl := by kernel_rfl
theorem join_impl_to (l : List ByteArray) (b : ByteArray) (hb : (joinK l b l.length).length ≤ 1073741824) (hn : l.length ≤ 4194304) : CallsTo Tryd.prog 50 [.sl (l.map ls), ls b] (.c false [.raw (.string (joinB l b))]) := by
  refine calls_one (fn := Tryd.f50) (t := 4) (by kernel_rfl) (by kernel_rfl) (by kernel_rfl) ic_join_impl_ok ?_
  unfold ic_join_impl
  change AWP _ _ _ (st0 8 _)
  simp only [undef, stS, st0, stN, D.av, D.avN, sl_agg, leaf_agg, li_agg, ls_agg, sl_acs, leaf_acs, li_acs, ls_acs, GRow.acs_eq, GRow.flat_eq, GRow.agg_eq, GVal.acs_eq, GVal.flat_eq, GVal.agg_eq, List.map_cons, List.map_nil, List.replicate, List.cons_append, List.nil_append, List.length_cons, List.length_nil, Nat.reduceAdd, Nat.reduceSub]
  have hi := sjoin_to l b hb hn
  repeat' (first | (with_reducible first | refine awp_seq ?_ | refine awp_block ?_ | refine awp_skip ?_ | refine awp_exit ?_ | refine awp_ret ?_ | refine athen ?_ | refine thenExit ?_ | refine thenRet ?_ | refine blockNormal ?_ | refine blockExit ?_ | refine blockRet ?_ | refine roundExit ?_ | refine roundRet ?_ | refine roundExitR ?_ | refine roundRetR ?_) | ((with_reducible refine blockPass ?_ ?_); rfl) | ((with_reducible refine awp_condT ?_ ?_); rfl) | ((with_reducible refine awp_condF ?_ ?_); rfl) | (with_reducible (refine awp_condS rfl ?_ ?_); all_goals (intro hb; have hb' := hb; (try simp only [pkC] at hb'); first | (exfalso; omega) | skip)) | ((with_reducible refine awp_reg ?_); intro K hK) | ((with_reducible refine hK _ ?_); clear hK K) | (with_reducible refine and_split ?_ ?_) | ((with_reducible refine ct_id ?_); first | (refine callThen hi trivial ?_ ?_)) | ((with_reducible refine ctd_id ?_); first | (refine callThenD hi trivial ?_ ?_)) | ((with_reducible refine sw_id ?_); simp (disch := first | decide | omega) only [↓pkS, pkW, pkA, undef, capsOf, ex, St.put, St.ev, kav, gdA, opI, rawI, vbin, srcOf, avsD, acsD, AV.toD, AC.toD, AV.nw, AC.nw, AC.one, Value.oneCell', fillA, D.one, D.ones, D.sz, D.szs, Nat.reduceAdd, Nat.reduceSub, Nat.reduceLeDiff, Nat.reduceEqDiff, reduceIte, pkN, li_acs, ls_acs, sl_acs, GRow.acs_eq, GRow.flat_eq, GRow.agg_eq, GRow.el, GVal.acs_eq, GVal.flat_eq, GVal.agg_eq, el_ints, el_strs]) | (first | (with_reducible rfl) | (with_reducible refine fnok_id ?_; kernel_rfl) | exact el_strs _ | exact el_ints _ | exact el_ln _ | exact el_tk _ _ | exact el_td _ _ _ | omega | (simp; done) | (simp; omega)) | ((with_reducible refine args_id ?_); simp [ArgsOk, ArgOk, argsD, argD, AC.toD, Value.oneCell', sl_flat, leaf_flat, li_flat, ls_flat, sl_agg, leaf_agg, li_agg, ls_agg, mo_t, mo_f, li_acs, ls_acs, sl_acs, GRow.acs_eq, GRow.flat_eq, GRow.agg_eq, GRow.el, GVal.acs_eq, GVal.flat_eq, GVal.agg_eq, el_ints, el_strs]; first | done | rfl))
  exact endRet ⟨_, rfl, rfl, trivial⟩
end Go.Proofs.YtdjcflnemnknaaaDoor

namespace Go.Proofs.YtdjcflnemnknaaaDoor
open Go.RowKit
set_option linter.unusedSimpArgs false
set_option linter.unusedVariables false
/-! ### Numerals read back -/
theorem u8_dig {d : Nat} (h : d < 10) : (UInt8.ofNat (48 + d)).toNat = 48 + d := by
  simp [UInt8.toNat_ofNat']
  omega
/-- What digits spell. -/
def dstep (a : Nat) (c : UInt8) : Nat := a * 10 + (c.toNat - 48)
def dfold (acc : Nat) (l : List UInt8) : Nat := l.foldl dstep acc
theorem dfold_nil (acc : Nat) : dfold acc [] = acc := rfl
theorem dfold_cons (acc : Nat) (c : UInt8) (r : List UInt8) : dfold acc (c :: r) = dfold (acc * 10 + (c.toNat - 48)) r := by
  unfold dfold
  rw [List.foldl_cons]
  rfl
theorem dfold_app (r l : List UInt8) (acc : Nat) : dfold acc (l ++ r) = dfold (dfold acc l) r := by
  unfold dfold
  rw [List.foldl_append]
theorem dfold_dd (u : Nat) : dfold 0 (Lib.decDigits u) = u := by
  induction u using Nat.strongRecOn with
  | ind u ih =>
    by_cases h : u < 10
    · rw [Lib.decDigits_one h]
      rw [dfold_cons, dfold_nil, u8_dig h]; omega
    · rw [dd_big h, dfold_app, ih (u / 10) (by omega)]
      rw [dfold_cons, dfold_nil, u8_dig (show u % 10 < 10 by omega)]; omega
def isDg (c : UInt8) : Bool := decide (48 ≤ c.toNat) && decide (c.toNat ≤ 57)
theorem dd_digs (u : Nat) : ∀ c ∈ Lib.decDigits u, isDg c = true := by
  induction u using Nat.strongRecOn with
  | ind u ih =>
    intro c hc
    by_cases h : u < 10
    · rw [Lib.decDigits_one h] at hc
      simp only [List.mem_singleton] at hc
      subst hc
      simp only [isDg, u8_dig h, Bool.and_eq_true, decide_eq_true_eq]
      omega
    · rw [dd_big h] at hc
      rcases List.mem_append.1 hc with hc | hc
      · exact ih (u / 10) (by omega) c hc
      · simp only [List.mem_singleton] at hc
        subst hc
        simp only [isDg, u8_dig (show u % 10 < 10 by omega), Bool.and_eq_true, decide_eq_true_eq]
        omega
theorem dd_ne (u : Nat) : Lib.decDigits u ≠ [] := by
  by_cases h : u < 10
  · rw [Lib.decDigits_one h]; simp
  · rw [dd_big h]; simp
theorem dd_pow (m : Nat) : ∀ {u : Nat}, u < 10 ^ (m + 1) → (Lib.decDigits u).length ≤ m + 1 := by
  induction m with
  | zero =>
    intro u h
    rw [Lib.decDigits_one (by simpa using h)]
    simp
  | succ m ih =>
    intro u h
    by_cases h1 : u < 10
    · rw [Lib.decDigits_one h1]; simp
    · rw [dd_big h1, List.length_append]
      have := ih (u := u / 10) (by rw [Nat.pow_succ] at h; omega)
      simp
      omega
theorem dfold_lt : ∀ (l : List UInt8) (acc k : Nat), (∀ c ∈ l, isDg c = true) → acc < 10 ^ k → dfold acc l < 10 ^ (k + l.length)
  | [], acc, k, _, h => by rw [dfold_nil]; simpa using h
  | c :: l, acc, k, hd, h => by
    have h1 := hd c (by simp)
    simp only [isDg, Bool.and_eq_true, decide_eq_true_eq] at h1
    rw [dfold_cons]
    have := dfold_lt l (acc * 10 + (c.toNat - 48)) (k + 1) (fun x hx => hd x (by simp [hx])) (by rw [Nat.pow_succ]; omega)
    rw [List.length_cons, show k + (l.length + 1) = k + 1 + l.length by omega]
    exact this
theorem pu_digs : ∀ (l : List UInt8) (acc : Nat), (∀ c ∈ l, isDg c = true) → dfold acc l < 18446744073709551616 → (∀ k, k ≤ l.length → dfold acc (l.take k) ≤ dfold acc l) → Lib.parseUint10 acc l = .ok (dfold acc l)
  | [], acc, _, _, _ => rfl
  | c :: l, acc, hd, hb, hm => by
    have h1 := hd c (by simp)
    have hle := hm 1 (by simp)
    simp only [isDg, Bool.and_eq_true, decide_eq_true_eq] at h1
    rw [List.take_succ_cons, List.take_zero, dfold_cons, dfold_nil, dfold_cons] at hle
    rw [dfold_cons] at hb
    rw [Lib.parseUint10, if_pos h1, if_neg (by omega), if_neg (by omega), dfold_cons]
    refine pu_digs l _ (fun x hx => hd x (by simp [hx])) hb fun k hk => ?_
    have := hm (k + 1) (by simpa using hk)
    rw [List.take_succ_cons, dfold_cons, dfold_cons] at this
    exact this
theorem dfold_mono : ∀ (l : List UInt8) (acc : Nat), acc ≤ dfold acc l
  | [], _ => Nat.le_refl _
  | c :: l, acc => by
    rw [dfold_cons]
    exact Nat.le_trans (by omega) (dfold_mono l (acc * 10 + (c.toNat - 48)))
theorem pu_ok (l : List UInt8) (hd : ∀ c ∈ l, isDg c = true) (hb : dfold 0 l < 18446744073709551616) : Lib.parseUint10 0 l = .ok (dfold 0 l) :=
  pu_digs l 0 hd hb fun k hk => by
    have e : dfold 0 l = dfold (dfold 0 (l.take k)) (l.drop k) := by rw [← dfold_app, List.take_append_drop]
    rw [e]
    exact dfold_mono _ _
theorem mag_dd {u : Nat} (h : u < 18446744073709551616) : Lib.parseMag (Lib.decDigits u) = .ok u := by
  unfold Lib.parseMag
  rw [if_neg (dd_ne u), pu_ok _ (dd_digs u) (by rw [dfold_dd]; exact h), dfold_dd]
theorem dd_head (u : Nat) : ∃ c r, Lib.decDigits u = c :: r ∧ 48 ≤ c.toNat ∧ c.toNat ≤ 57 := by
  cases h : Lib.decDigits u with
  | nil => exact absurd h (dd_ne u)
  | cons c r =>
    have := dd_digs u c (by rw [h]; simp)
    simp only [isDg, Bool.and_eq_true, decide_eq_true_eq] at this
    exact ⟨c, r, rfl, this⟩
theorem itoa_pos {n : Int} (h : 0 ≤ n) : Lib.itoa n = Lib.decDigits n.natAbs := by
  unfold Lib.itoa
  rw [if_neg (by omega)]
  have e : n.toNat = n.natAbs := by omega
  rw [e]
theorem itoa_mi {n : Int} (h : n < 0) : Lib.itoa n = 45 :: Lib.decDigits n.natAbs := by
  unfold Lib.itoa
  rw [if_pos h]
theorem atoi_itoa {n : Int} (h0 : -9223372036854775808 ≤ n) (h1 : n ≤ 9223372036854775807) : Lib.atoiAll (Lib.itoa n) = .ok n := by
  by_cases h : n < 0
  · rw [itoa_mi h]
    have e : (45 : UInt8).toNat = 45 := rfl
    simp only [Lib.atoiAll, e, or_true, if_true]
    rw [mag_dd (by omega)]
    simp only [not_true, false_and, if_false, true_and]
    rw [if_neg (by omega)]
    congr 1
    omega
  · rw [itoa_pos (by omega)]
    obtain ⟨c, r, hc, h2, h3⟩ := dd_head n.natAbs
    have hm := mag_dd (u := n.natAbs) (by omega)
    rw [hc] at hm ⊢
    simp only [Lib.atoiAll]
    rw [if_neg (by omega), hm]
    have e45 : ¬ c.toNat = 45 := by omega
    simp only [e45, not_false_iff, true_and, false_and, if_false]
    rw [if_neg (by omega)]
    congr 1
    omega

theorem fmtI_list (n : Int) : (fmtI n).data.toList = Lib.itoa n := by simp [fmtI]
/-- The number with this numeral, in a range; 0 and false if there is none. -/
def rdN (lo hi : Int) (s : ByteArray) : Int × Bool := match Lib.atoiAll s.data.toList with
  | .ok n => if lo ≤ n ∧ n ≤ hi ∧ fmtI n = s then (n, true) else (0, false)
  | _ => (0, false)
theorem rdN_some {lo hi n : Int} {s : ByteArray} (h0 : -9223372036854775808 ≤ n) (h1 : n ≤ 9223372036854775807) (hl : lo ≤ n) (hh : n ≤ hi) (hs : fmtI n = s) : rdN lo hi s = (n, true) := by
  subst hs
  unfold rdN
  rw [fmtI_list, atoi_itoa h0 h1]
  simp only
  simp [hl, hh]
theorem rdN_none {lo hi : Int} {s : ByteArray} (h : ∀ n, lo ≤ n → n ≤ hi → fmtI n ≠ s) : rdN lo hi s = (0, false) := by
  unfold rdN
  split
  · next n _ => rw [if_neg fun hc => h n hc.1 hc.2.1 hc.2.2]
  · rfl
theorem rdN_cases (lo hi : Int) (s : ByteArray) : (∃ n, lo ≤ n ∧ n ≤ hi ∧ fmtI n = s ∧ rdN lo hi s = (n, true)) ∨ ((∀ n, lo ≤ n → n ≤ hi → -9223372036854775808 ≤ n → n ≤ 9223372036854775807 → fmtI n ≠ s) ∧ rdN lo hi s = (0, false)) := by
  by_cases h : ∃ n, lo ≤ n ∧ n ≤ hi ∧ -9223372036854775808 ≤ n ∧ n ≤ 9223372036854775807 ∧ fmtI n = s
  · obtain ⟨n, h1, h2, h3, h4, h5⟩ := h
    exact Or.inl ⟨n, h1, h2, h5, rdN_some h3 h4 h1 h2 h5⟩
  · refine Or.inr ⟨fun n h1 h2 h3 h4 h5 => h ⟨n, h1, h2, h3, h4, h5⟩, ?_⟩
    unfold rdN
    split
    · next n hn =>
      rw [if_neg]
      rintro ⟨a, b, c⟩
      have : Lib.atoiAll (Lib.itoa n) = .ok n := by rw [← fmtI_list, c]; exact hn
      have hbd : -9223372036854775808 ≤ n ∧ n ≤ 9223372036854775807 := by
        have := hn
        exact Lib.atoiAll_bounds this
      exact h ⟨n, a, b, hbd.1, hbd.2, c⟩
    · rfl
/-! ### What the reference reads -/
def isMi (s : ByteArray) : Bool := decide (0 < s.size) && (s.data.toList.getD 0 0 == 45)
/-- Behind the sign. -/
def bodyL (s : ByteArray) : List UInt8 := if isMi s then s.data.toList.drop 1 else s.data.toList
def valS (s : ByteArray) : Int := if isMi s then -((dfold 0 (bodyL s) : Nat) : Int) else ((dfold 0 (bodyL s) : Nat) : Int)
theorem isMi_fmt (n : Int) : isMi (fmtI n) = decide (n < 0) := by
  unfold isMi
  rw [fmtI_list]
  by_cases h : n < 0
  · rw [itoa_mi h]
    have : 0 < (fmtI n).size := by
      have := congrArg List.length (fmtI_list n)
      rw [itoa_mi h] at this
      simp at this
      omega
    simp [this, h]
  · rw [itoa_pos (by omega)]
    obtain ⟨c, r, hc, h2, h3⟩ := dd_head n.natAbs
    rw [hc]
    have : (c == 45) = false := by
      rw [beq_eq_false_iff_ne]
      intro e
      subst e
      have e45 : (45 : UInt8).toNat = 45 := rfl
      omega
    simp [h, this]
theorem body_fmt (n : Int) : bodyL (fmtI n) = Lib.decDigits n.natAbs := by
  unfold bodyL
  rw [isMi_fmt, fmtI_list]
  by_cases h : n < 0
  · rw [if_pos (by simpa using h), itoa_mi h]; rfl
  · rw [if_neg (by simpa using h), itoa_pos (by omega)]
theorem val_fmt (n : Int) : valS (fmtI n) = n := by
  unfold valS
  rw [body_fmt, dfold_dd, isMi_fmt]
  by_cases h : n < 0
  · rw [if_pos (by simpa using h)]; omega
  · rw [if_neg (by simpa using h)]; omega
/-- What l1Read answers, by its tests. -/
def rdS (m : Nat) (s : ByteArray) : Int × Bool := rdN (-((10 ^ m : Nat) : Int) + 1) (((10 ^ m : Nat) : Int) - 1) s
theorem rdS_len {m : Nat} {s : ByteArray} (hm : m ≤ 18) (h : (bodyL s).length < 1 ∨ m < (bodyL s).length) (hm1 : 1 ≤ m) : rdS m s = (0, false) := by
  unfold rdS
  refine rdN_none fun n h1 h2 e => ?_
  subst e
  rw [body_fmt] at h
  rcases h with h | h
  · have := List.length_eq_zero_iff.1 (Nat.lt_one_iff.1 h)
    exact dd_ne _ this
  · obtain ⟨k, rfl⟩ : ∃ k, m = k + 1 := ⟨m - 1, by omega⟩
    have := dd_pow k (u := n.natAbs) (by omega)
    omega
theorem rdS_dig {m : Nat} {s : ByteArray} {c : UInt8} (hc : c ∈ bodyL s) (h : isDg c = false) : rdS m s = (0, false) := by
  unfold rdS
  refine rdN_none fun n h1 h2 e => ?_
  subst e
  rw [body_fmt] at hc
  have := dd_digs _ c hc
  rw [h] at this
  cases this
theorem rdS_val {m : Nat} {s : ByteArray} (h : fmtI (valS s) ≠ s) : rdS m s = (0, false) := by
  unfold rdS
  refine rdN_none fun n h1 h2 e => ?_
  subst e
  exact h (by rw [val_fmt])
theorem rdS_ok {m : Nat} {s : ByteArray} (hm : m ≤ 18) (hd : ∀ c ∈ bodyL s, isDg c = true) (hl : (bodyL s).length ≤ m) (h : fmtI (valS s) = s) : rdS m s = (valS s, true) := by
  have hlt := dfold_lt (bodyL s) 0 0 hd (by simp)
  rw [Nat.zero_add] at hlt
  have hp : 10 ^ (bodyL s).length ≤ 10 ^ m := Nat.pow_le_pow_right (by decide) hl
  have hb : 10 ^ m ≤ 10 ^ 18 := Nat.pow_le_pow_right (by decide) hm
  have e18 : (10 : Nat) ^ 18 = 1000000000000000000 := by decide
  rw [e18] at hb
  have h3 : (valS s).natAbs = dfold 0 (bodyL s) := by unfold valS; split <;> omega
  exact rdN_some (by omega) (by omega) (by omega) (by omega) h
end Go.Proofs.YtdjcflnemnknaaaDoor

namespace Go.Proofs.YtdjcflnemnknaaaDoor
set_option linter.unusedSimpArgs false
set_option linter.unusedVariables false
/-- The pieces of a string, cut at all instances of another. -/
def cut (sep s : ByteArray) : List ByteArray := Lib.splitB sep 0 (Lib.countB s sep) s
theorem ext_end (s : ByteArray) (a : Nat) : (s.extract a s.size).data.toList = s.data.toList.drop a := by
  rw [Lib.extract_to_end]
theorem ext_ext (s : ByteArray) {a b c : Nat} (h : c ≤ s.size) (hb : b ≤ c - a) (ha : a ≤ c) : (s.extract a c).extract b (s.extract a c).size = s.extract (a + b) c := by
  apply ByteArray.ext
  simp
  have : min (a + (min c s.size - a)) c = c := by omega
  rw [this]
theorem ext_ext2 (s : ByteArray) {a b c : Nat} (h : c ≤ s.size) (hb : b ≤ c - a) (ha : a ≤ c) : (s.extract a c).extract 0 b = s.extract a (a + b) := by
  apply ByteArray.ext
  simp
  have : min (a + b) c = a + b := by omega
  rw [this]
theorem cut_hit (s sep : ByteArray) {a i : Nat} (hs : 1 ≤ sep.size) (h1 : a ≤ i) (h2 : i + sep.size ≤ s.size) (hn : ∀ j, a ≤ j → j < i → Lib.occAt s.data.toList sep.data.toList j = false) (ho : Lib.occAt s.data.toList sep.data.toList i = true) :
    cut sep (s.extract a s.size) = s.extract a i :: cut sep (s.extract (i + sep.size) s.size) := by
  have hi : Lib.indexB (s.extract a s.size) sep = ((i - a : Nat) : Int) := by
    show Lib.index _ _ = _
    rw [ext_end]
    refine Lib.index_first (by simp; omega) ?_ ?_
    · unfold Lib.occAt at ho ⊢
      rw [List.drop_drop, show a + (i - a) = i by omega]
      exact ho
    · intro j hj
      have := hn (a + j) (by omega) (by omega)
      unfold Lib.occAt at this ⊢
      rw [List.drop_drop]
      exact this
  unfold cut
  have e : (s.extract a s.size).extract (i - a + sep.size) (s.extract a s.size).size = s.extract (i + sep.size) s.size := by
    rw [ext_ext s (Nat.le_refl _) (by omega) (by omega), show a + (i - a + sep.size) = i + sep.size by omega]
  rw [Lib.countB_hit _ _ _ hs hi, Nat.add_comm, Lib.splitB_hit _ _ _ _ _ hi, e, Nat.add_zero, ext_ext2 s (Nat.le_refl _) (by omega) (by omega), show a + (i - a) = i by omega]
theorem cut_miss (s sep : ByteArray) {a : Nat} (hn : ∀ j, a ≤ j → j ≤ s.size → Lib.occAt s.data.toList sep.data.toList j = false) (ha : a ≤ s.size) :
    cut sep (s.extract a s.size) = [s.extract a s.size] := by
  have hi : Lib.indexB (s.extract a s.size) sep = -1 := by
    show Lib.index _ _ = _
    rw [ext_end]
    refine Lib.index_none ?_
    intro j hj
    have := hn (a + j) (by omega) (by simp at hj; omega)
    unfold Lib.occAt at this ⊢
    rw [List.drop_drop]
    exact this
  unfold cut
  rw [Lib.countB_miss _ _ hi, Lib.splitB_zero]
theorem occ1 (s : ByteArray) (c : UInt8) {j : Nat} (h : j < s.size) : Lib.occAt s.data.toList [c] j = (c == s[j]) := by
  unfold Lib.occAt
  have hj : j < s.data.toList.length := by simpa using h
  rw [List.drop_eq_getElem_cons hj]
  simp [List.isPrefixOf]
  rfl
theorem occ1_end (s : ByteArray) (c : UInt8) {j : Nat} (h : s.size ≤ j) : Lib.occAt s.data.toList [c] j = false := by
  unfold Lib.occAt
  rw [List.drop_eq_nil_of_le (by simpa using h)]
  rfl
theorem occ2 (s : ByteArray) (c d : UInt8) {j : Nat} (h : j + 1 < s.size) : Lib.occAt s.data.toList [c, d] j = (c == s[j] && d == s[j + 1]) := by
  unfold Lib.occAt
  have hj : j + 1 < s.data.toList.length := by simpa using h
  rw [List.drop_eq_getElem_cons (by omega), List.drop_eq_getElem_cons hj]
  simp [List.isPrefixOf]
  rfl
theorem occ2_end (s : ByteArray) (c d : UInt8) {j : Nat} (h : s.size ≤ j + 1) : Lib.occAt s.data.toList [c, d] j = false := by
  unfold Lib.occAt
  by_cases hj : s.size ≤ j
  · rw [List.drop_eq_nil_of_le (by simpa using hj)]
    rfl
  · have hj' : j < s.data.toList.length := by simp; omega
    rw [List.drop_eq_getElem_cons hj', List.drop_eq_nil_of_le (by simp; omega)]
    simp [List.isPrefixOf]
theorem cut_ne (sep s : ByteArray) : cut sep s ≠ [] := by
  unfold cut
  cases Lib.countB s sep with
  | zero => simp [Lib.splitB]
  | succ k =>
    unfold Lib.splitB
    split <;> simp
theorem ext_self (s : ByteArray) : s.extract 0 s.size = s := by
  apply ByteArray.ext
  simp
end Go.Proofs.YtdjcflnemnknaaaDoor
