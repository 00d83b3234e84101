/-
  Texts joined: Num Fmt Fex.
-/
import Derived.Test.YtnongnchpplacaaJA
import Derived.Test.YtnongnchpplacaaJE
import Derived.Test.YtnongnchpplacaaShelf
import Derived.Lib.AppendIntMem
import Derived.Lib.ItoaLen
import Derived.Test.YtnongnchpplacaaJO
import Derived.Test.YtnongnchpplacaaJX
namespace Go.Proofs.Ytnongnchpplacaa
open Go.RowKit
set_option linter.unusedSimpArgs false
set_option linter.unusedVariables false
def fmtI (n : Int) : ByteArray := ⟨(Lib.itoa n).toArray⟩
theorem fmtI_len {n : Int} (h0 : -9223372036854775808 ≤ n) (h1 : n ≤ 9223372036854775807) : (fmtI n).size ≤ 21 := by
  have := Lib.itoa_length_le n h0 h1
  simpa [fmtI, ByteArray.size] using this
theorem dd_big {u : Nat} (h : ¬ u < 10) : Lib.decDigits u = Lib.decDigits (u / 10) ++ [UInt8.ofNat (48 + u % 10)] := by
  rw [Lib.decDigits, dif_neg h]
theorem dd_len {u : Nat} (h : u ≤ 9223372036854775808) : (Lib.decDigits u).length ≤ 21 := by
  by_cases h0 : u = 0
  · subst h0; rw [Lib.decDigits_one (by decide)]; decide
  · have := Lib.itoa_length_le (-(u : Int)) (by omega) (by omega)
    rw [Lib.itoa_neg u (by omega)] at this
    simp at this
    omega
def FmtInv (n0 n : Int) (o : List UInt8) : Prop := n.natAbs ≤ n0.natAbs ∧ (0 ≤ n0 → 0 ≤ n) ∧ (n0 ≤ 0 → n ≤ 0) ∧ (if n = 0 then o = Lib.decDigits n0.natAbs else Lib.decDigits n.natAbs ++ o = Lib.decDigits n0.natAbs)
theorem FmtInv.start {n0 : Int} (h : n0 ≠ 0) : FmtInv n0 n0 [] := ⟨Nat.le_refl _, id, id, by rw [if_neg h, List.append_nil]⟩
theorem FmtInv.len {n0 n : Int} {o : List UInt8} (h : FmtInv n0 n o) (hb : n0.natAbs ≤ 9223372036854775808) : o.length ≤ 21 := by
  have hl := dd_len hb
  obtain ⟨_, _, _, h⟩ := h
  split at h
  · rw [h]; exact hl
  · rw [← h, List.length_append] at hl; omega
theorem tdiv_abs (n : Int) : (n.tdiv 10).natAbs = n.natAbs / 10 := by rw [Int.natAbs_tdiv]; rfl
theorem tdiv_sgn (n : Int) : (0 ≤ n → 0 ≤ n.tdiv 10) ∧ (n ≤ 0 → n.tdiv 10 ≤ 0) := by
  refine ⟨fun h => Int.tdiv_nonneg h (by decide), fun h => ?_⟩
  have := Int.tdiv_nonneg (a := -n) (b := 10) (by omega) (by decide)
  rw [Int.neg_tdiv] at this
  omega
theorem FmtInv.go {n0 n : Int} {o : List UInt8} (h : FmtInv n0 n o) (hn : n ≠ 0) : FmtInv n0 (n.tdiv 10) (UInt8.ofNat (48 + n.natAbs % 10) :: o) := by
  obtain ⟨h1, h2, h3, h4⟩ := h
  rw [if_neg hn] at h4
  have ha := tdiv_abs n
  have hsg := tdiv_sgn n
  refine ⟨by omega, fun hp => ?_, fun hp => ?_, ?_⟩
  · have := h2 hp; omega
  · have := h3 hp; omega
  · by_cases hs : n.natAbs < 10
    · have hz : n.tdiv 10 = 0 := by omega
      rw [if_pos hz, ← h4, Lib.decDigits_one hs, Nat.mod_eq_of_lt hs]
      rfl
    · have hz : n.tdiv 10 ≠ 0 := by omega
      rw [if_neg hz, ← h4, dd_big hs, ha]
      simp
theorem FmtInv.fin {n0 : Int} {o : List UInt8} (h : FmtInv n0 0 o) : o = Lib.decDigits n0.natAbs := by
  obtain ⟨_, _, _, h⟩ := h
  simpa using h
theorem fmtI_pos {n : Int} (h : 0 ≤ n) : fmtI n = ⟨(Lib.decDigits n.natAbs).toArray⟩ := by
  unfold fmtI Lib.itoa
  rw [if_neg (by omega)]
  have e : n.toNat = n.natAbs := by omega
  rw [e]
theorem fmtI_neg {n : Int} (h : n < 0) : fmtI n = ⟨(45 :: Lib.decDigits n.natAbs).toArray⟩ := by
  unfold fmtI Lib.itoa
  rw [if_pos h]
theorem ba_app (a b : List UInt8) : (⟨a.toArray⟩ : ByteArray) ++ ⟨b.toArray⟩ = ⟨(a ++ b).toArray⟩ := by
  apply ByteArray.ext
  simp
theorem u8_wrap {d : Int} (h0 : 0 ≤ d) (h1 : d ≤ 255) : IntKind.u8.wrap d = d := by
  simp [IntKind.wrap, IntKind.signed, IntKind.bits]
  omega
theorem ten0 {α : Type} {x y : α} : (if (10 : Int) = 0 then x else y) = y := if_neg (by decide)
def ic_fmt_spec : IC := (.seq (.reg false [⟨(some 2), none, .mov (.k (.string ⟨#[]⟩))⟩]) (.seq (.seq (.reg false [⟨(some 6), none, .mov (.t 0)⟩, ⟨(some 7), none, .bin .eql (.t 6) (.k (.int .i64 0))⟩]) (.cond (.t 7) (.seq (.reg false [⟨(some 2), none, .mov (.k (.string ⟨#[48]⟩))⟩]) .ret) .skip)) (.seq (.reg false [⟨(some 8), none, .mov (.t 0)⟩, ⟨(some 9), none, .bin .lss (.t 8) (.k (.int .i64 0))⟩, ⟨(some 3), none, .mov (.t 9)⟩]) (.seq (.reg false [⟨(some 4), none, .mov (.k (.string ⟨#[]⟩))⟩]) (.seq (.block 0 (.loop (.seq (.seq (.reg false [⟨(some 10), none, .mov (.t 0)⟩, ⟨(some 11), none, .bin .neq (.t 10) (.k (.int .i64 0))⟩]) (.cond (.t 11) .skip (.exit 0))) (.block 1 (.seq (.reg false [⟨(some 12), none, .mov (.t 0)⟩, ⟨(some 13), none, .bin .rem (.t 12) (.k (.int .i64 10))⟩, ⟨(some 5), none, .mov (.t 13)⟩]) (.seq (.seq (.reg false [⟨(some 14), none, .mov (.t 5)⟩, ⟨(some 15), none, .bin .lss (.t 14) (.k (.int .i64 0))⟩]) (.cond (.t 15) (.reg false [⟨(some 16), none, .mov (.t 5)⟩, ⟨(some 17), none, .bin .sub (.k (.int .i64 0)) (.t 16)⟩, ⟨(some 5), none, .mov (.t 17)⟩]) .skip)) (.seq (.reg false [⟨(some 18), none, .mov (.t 5)⟩, ⟨(some 19), none, .bin .add (.k (.int .i64 48)) (.t 18)⟩, ⟨(some 20), none, .cvi .u8 (.t 19)⟩, ⟨(some 21), none, .brow true 5 1 1 false [(.t 20)]⟩, ⟨(some 22), none, .cvs (.t 21)⟩, ⟨(some 23), none, .mov (.t 4)⟩, ⟨(some 24), none, .bin .add (.t 22) (.t 23)⟩, ⟨(some 4), none, .mov (.t 24)⟩]) (.reg false [⟨(some 25), none, .mov (.t 0)⟩, ⟨(some 26), none, .bin .quo (.t 25) (.k (.int .i64 10))⟩, ⟨(some 0), none, .mov (.t 26)⟩])))))))) (.seq (.seq (.reg false [⟨(some 27), none, .mov (.t 3)⟩]) (.cond (.t 27) (.seq (.reg false [⟨(some 28), none, .mov (.t 4)⟩, ⟨(some 29), none, .bin .add (.k (.string ⟨#[45]⟩)) (.t 28)⟩, ⟨(some 2), none, .mov (.t 29)⟩]) .ret) .skip)) (.seq (.reg false [⟨(some 30), none, .mov (.t 4)⟩, ⟨(some 2), none, .mov (.t 30)⟩]) .ret)))))))
theorem ic_fmt_spec_ok : compC Try.prog (Try.f68.body.getD .skip) = some ic_fmt_spec := by kernel_rfl
theorem cat_ok2 {a : UInt8} {o : List UInt8} (h : o.length ≤ 21) : ((((⟨#[a]⟩ : ByteArray).size + (⟨o.toArray⟩ : ByteArray).size : Nat) : Int) > IntKind.i64.max) = False := by
  have e1 : (⟨o.toArray⟩ : ByteArray).size = o.length := by simp [ByteArray.size]
  have e2 : (⟨#[a]⟩ : ByteArray).size = 1 := rfl
  have e3 : IntKind.i64.max = 9223372036854775807 := by decide
  rw [e1, e2, e3]
  simp
  omega
theorem cat_ok3 {a : UInt8} {o : List UInt8} (h : o.length ≤ 21) : (9223372036854775807 < ((((⟨#[a]⟩ : ByteArray).size : Nat) : Int) + (((⟨o.toArray⟩ : ByteArray).size : Nat) : Int))) = False := by
  have e1 : (⟨o.toArray⟩ : ByteArray).size = o.length := by simp [ByteArray.size]
  have e2 : (⟨#[a]⟩ : ByteArray).size = 1 := rfl
  rw [e1, e2]
  simp
  omega
set_option maxHeartbeats 8000000 in
theorem formatInt_spec_to {n : Int} (h0 : -9223372036854775808 ≤ n) (h1 : n ≤ 9223372036854775807) : CallsTo Try.prog 68 [li n] (.c false [.raw (.string (fmtI n))]) := by
  refine calls_one (fn := Try.f68) (t := 2) (by kernel_rfl) (by kernel_rfl) (by kernel_rfl) ic_fmt_spec_ok ?_
  unfold ic_fmt_spec
  change AWP _ _ _ (st0 31 _)
  simp only [undef, stS, st0, stN, D.av, D.avN, sl_agg, leaf_agg, li_agg, ls_agg, sl_acs, leaf_acs, li_acs, ls_acs, List.map_cons, List.map_nil, List.replicate, List.cons_append, List.nil_append, List.length_cons, List.length_nil, Nat.reduceAdd, Nat.reduceSub]
  by_cases hz : n = 0
  · subst hz
    have hz' : ((0 : Int) == 0) = true := rfl
    repeat' (first | (with_reducible first | refine awp_seq ?_ | refine awp_block ?_ | refine awp_skip ?_ | refine awp_exit ?_ | refine awp_ret ?_ | refine athen ?_ | refine thenExit ?_ | refine thenRet ?_ | refine blockNormal ?_ | refine blockExit ?_ | refine blockRet ?_ | refine roundExit ?_ | refine roundRet ?_ | refine roundExitR ?_ | refine roundRetR ?_) | ((with_reducible refine blockPass ?_ ?_); rfl) | ((with_reducible refine awp_condT ?_ ?_); rfl) | ((with_reducible refine awp_condF ?_ ?_); rfl) | (with_reducible (refine awp_condS rfl ?_ ?_); all_goals (intro hb; have hb' := hb; (try simp only [pkC] at hb'); first | (exfalso; omega) | skip)) | ((with_reducible refine awp_reg ?_); intro K hK) | ((with_reducible refine hK _ ?_); clear hK K) | (with_reducible refine and_split ?_ ?_) | ((with_reducible refine sw_id ?_); simp (disch := first | decide | omega) only [↓pkS, pkW, pkA, undef, List.flatMap_cons, List.flatMap_nil, List.append_nil, linSrc, lvsD, lvD, lcsD, lcD, lvK, lcK, sealOs, sealO, capsOf, ex, St.put, St.ev, kav, gdA, opI, rawI, vbin, srcOf, avsD, acsD, AV.toD, AC.toD, AV.nw, AC.nw, AC.one, Value.oneCell', nilS_int, nilS_string, nilS_bool, nilS_nil, nilS_func, nilS_tuple, if_true, if_false, Bool.false_eq_true, fillA, D.one, D.ones, D.sz, D.szs, Nat.reduceAdd, Nat.reduceSub, Nat.reduceLeDiff, Nat.reduceEqDiff, reduceIte, pkN, li_acs, ls_acs, hz']) | (first | (with_reducible rfl) | (with_reducible refine fnok_id ?_; kernel_rfl) | exact el_strs _ | exact el_ints _ | exact el_ln _ | exact el_tk _ _ | exact el_td _ _ _ | omega | (simp; done) | (simp; omega)) | ((with_reducible refine args_id ?_); simp [ArgsOk, ArgOk, argsD, argD, AC.toD, nilS_int, nilS_string, nilS_bool, nilS_nil, Value.oneCell', sl_flat, leaf_flat, li_flat, ls_flat, sl_agg, leaf_agg, li_agg, ls_agg, mo_t, mo_f, li_acs, ls_acs, hz']; first | done | rfl))
    exact endRet ⟨_, rfl, by rw [fmtI_pos (by decide)]; rw [show Lib.decDigits (Int.natAbs 0) = [48] from by rw [Lib.decDigits_one (by decide)]; rfl]; rfl, trivial⟩
  have hz' : (n == 0) = false := by simp [hz]
  repeat' (first | (with_reducible first | refine awp_seq ?_ | refine awp_block ?_ | refine awp_skip ?_ | refine awp_exit ?_ | refine awp_ret ?_ | refine athen ?_ | refine thenExit ?_ | refine thenRet ?_ | refine blockNormal ?_ | refine blockExit ?_ | refine blockRet ?_ | refine roundExit ?_ | refine roundRet ?_ | refine roundExitR ?_ | refine roundRetR ?_) | ((with_reducible refine blockPass ?_ ?_); rfl) | ((with_reducible refine awp_condT ?_ ?_); rfl) | ((with_reducible refine awp_condF ?_ ?_); rfl) | (with_reducible (refine awp_condS rfl ?_ ?_); all_goals (intro hb; have hb' := hb; (try simp only [pkC] at hb'); first | (exfalso; omega) | skip)) | ((with_reducible refine awp_reg ?_); intro K hK) | ((with_reducible refine hK _ ?_); clear hK K) | (with_reducible refine and_split ?_ ?_) | ((with_reducible refine sw_id ?_); simp (disch := first | decide | omega) only [↓pkS, pkW, pkA, undef, List.flatMap_cons, List.flatMap_nil, List.append_nil, linSrc, lvsD, lvD, lcsD, lcD, lvK, lcK, sealOs, sealO, capsOf, ex, St.put, St.ev, kav, gdA, opI, rawI, vbin, srcOf, avsD, acsD, AV.toD, AC.toD, AV.nw, AC.nw, AC.one, Value.oneCell', nilS_int, nilS_string, nilS_bool, nilS_nil, nilS_func, nilS_tuple, if_true, if_false, Bool.false_eq_true, fillA, D.one, D.ones, D.sz, D.szs, Nat.reduceAdd, Nat.reduceSub, Nat.reduceLeDiff, Nat.reduceEqDiff, reduceIte, pkN, li_acs, ls_acs, hz']) | (first | (with_reducible rfl) | (with_reducible refine fnok_id ?_; kernel_rfl) | exact el_strs _ | exact el_ints _ | exact el_ln _ | exact el_tk _ _ | exact el_td _ _ _ | omega | (simp; done) | (simp; omega)) | ((with_reducible refine args_id ?_); simp [ArgsOk, ArgOk, argsD, argD, AC.toD, nilS_int, nilS_string, nilS_bool, nilS_nil, Value.oneCell', sl_flat, leaf_flat, li_flat, ls_flat, sl_agg, leaf_agg, li_agg, ls_agg, mo_t, mo_f, li_acs, ls_acs, hz']; first | done | rfl))
  refine awp_loopB (X := Int × List UInt8) (fun q => [.v (.c false [.raw (.int .i64 q.1)]), .d, .d, .v (.c false [.raw (.bool (decide (n < 0)))]), .v (.c false [.raw (.string ⟨q.2.toArray⟩)]), .d, .d, .d, .d, .d, .d, .d, .d, .d, .d, .d, .d, .d, .d, .d, .d, .d, .d, .d, .d, .d, .d, .d, .d, .d, .d]) (fun q => []) (fun q bs => []) (fun q => FmtInv n q.1 q.2) (fun q => q.1.natAbs) (n, []) (FmtInv.start hz) ?_ ?_
  · simp [StLe', FrLe, OwnLe, BoxLe, AV.fits, AC.fits, FB, mask]
  rintro ⟨m, o⟩ hv
  simp only [FB, mask]
  have hv : FmtInv n m o := hv
  have hab := hv.1
  by_cases hm : m = 0
  · subst hm
    have hne : ((0 : Int) != 0) = false := rfl
    have ho := hv.fin
    have hlen := hv.len (by omega)
    by_cases hb : n < 0
    · have hb' : decide (n < 0) = true := decide_eq_true hb
      repeat' (first | (with_reducible first | refine awp_seq ?_ | refine awp_block ?_ | refine awp_skip ?_ | refine awp_exit ?_ | refine awp_ret ?_ | refine athen ?_ | refine thenExit ?_ | refine thenRet ?_ | refine blockNormal ?_ | refine blockExit ?_ | refine blockRet ?_ | refine roundExit ?_ | refine roundRet ?_ | refine roundExitR ?_ | refine roundRetR ?_) | ((with_reducible refine blockPass ?_ ?_); rfl) | ((with_reducible refine awp_condT ?_ ?_); rfl) | ((with_reducible refine awp_condF ?_ ?_); rfl) | (with_reducible (refine awp_condS rfl ?_ ?_); all_goals (intro hb; have hb' := hb; (try simp only [pkC] at hb'); first | (exfalso; omega) | skip)) | ((with_reducible refine awp_reg ?_); intro K hK) | ((with_reducible refine hK _ ?_); clear hK K) | (with_reducible refine and_split ?_ ?_) | ((with_reducible refine sw_id ?_); simp (disch := first | decide | omega) only [↓pkS, pkW, pkA, undef, List.flatMap_cons, List.flatMap_nil, List.append_nil, linSrc, lvsD, lvD, lcsD, lcD, lvK, lcK, sealOs, sealO, capsOf, ex, St.put, St.ev, kav, gdA, opI, rawI, vbin, srcOf, avsD, acsD, AV.toD, AC.toD, AV.nw, AC.nw, AC.one, Value.oneCell', nilS_int, nilS_string, nilS_bool, nilS_nil, nilS_func, nilS_tuple, if_true, if_false, Bool.false_eq_true, fillA, D.one, D.ones, D.sz, D.szs, Nat.reduceAdd, Nat.reduceSub, Nat.reduceLeDiff, Nat.reduceEqDiff, reduceIte, pkN, li_acs, ls_acs, hne, hb', cat_ok2 hlen, cat_ok3 hlen]) | (first | (with_reducible rfl) | (with_reducible refine fnok_id ?_; kernel_rfl) | exact el_strs _ | exact el_ints _ | exact el_ln _ | exact el_tk _ _ | exact el_td _ _ _ | omega | (simp; done) | (simp; omega)) | ((with_reducible refine args_id ?_); simp [ArgsOk, ArgOk, argsD, argD, AC.toD, nilS_int, nilS_string, nilS_bool, nilS_nil, Value.oneCell', sl_flat, leaf_flat, li_flat, ls_flat, sl_agg, leaf_agg, li_agg, ls_agg, mo_t, mo_f, li_acs, ls_acs, hne, hb', cat_ok2 hlen, cat_ok3 hlen]; first | done | rfl))
      exact endRet ⟨_, rfl, by rw [fmtI_neg hb, ← ho]; rfl, trivial⟩
    · have hb' : decide (n < 0) = false := decide_eq_false hb
      repeat' (first | (with_reducible first | refine awp_seq ?_ | refine awp_block ?_ | refine awp_skip ?_ | refine awp_exit ?_ | refine awp_ret ?_ | refine athen ?_ | refine thenExit ?_ | refine thenRet ?_ | refine blockNormal ?_ | refine blockExit ?_ | refine blockRet ?_ | refine roundExit ?_ | refine roundRet ?_ | refine roundExitR ?_ | refine roundRetR ?_) | ((with_reducible refine blockPass ?_ ?_); rfl) | ((with_reducible refine awp_condT ?_ ?_); rfl) | ((with_reducible refine awp_condF ?_ ?_); rfl) | (with_reducible (refine awp_condS rfl ?_ ?_); all_goals (intro hb; have hb' := hb; (try simp only [pkC] at hb'); first | (exfalso; omega) | skip)) | ((with_reducible refine awp_reg ?_); intro K hK) | ((with_reducible refine hK _ ?_); clear hK K) | (with_reducible refine and_split ?_ ?_) | ((with_reducible refine sw_id ?_); simp (disch := first | decide | omega) only [↓pkS, pkW, pkA, undef, List.flatMap_cons, List.flatMap_nil, List.append_nil, linSrc, lvsD, lvD, lcsD, lcD, lvK, lcK, sealOs, sealO, capsOf, ex, St.put, St.ev, kav, gdA, opI, rawI, vbin, srcOf, avsD, acsD, AV.toD, AC.toD, AV.nw, AC.nw, AC.one, Value.oneCell', nilS_int, nilS_string, nilS_bool, nilS_nil, nilS_func, nilS_tuple, if_true, if_false, Bool.false_eq_true, fillA, D.one, D.ones, D.sz, D.szs, Nat.reduceAdd, Nat.reduceSub, Nat.reduceLeDiff, Nat.reduceEqDiff, reduceIte, pkN, li_acs, ls_acs, hne, hb', cat_ok2 hlen, cat_ok3 hlen]) | (first | (with_reducible rfl) | (with_reducible refine fnok_id ?_; kernel_rfl) | exact el_strs _ | exact el_ints _ | exact el_ln _ | exact el_tk _ _ | exact el_td _ _ _ | omega | (simp; done) | (simp; omega)) | ((with_reducible refine args_id ?_); simp [ArgsOk, ArgOk, argsD, argD, AC.toD, nilS_int, nilS_string, nilS_bool, nilS_nil, Value.oneCell', sl_flat, leaf_flat, li_flat, ls_flat, sl_agg, leaf_agg, li_agg, ls_agg, mo_t, mo_f, li_acs, ls_acs, hne, hb', cat_ok2 hlen, cat_ok3 hlen]; first | done | rfl))
      exact endRet ⟨_, rfl, by rw [fmtI_pos (by omega), ← ho]; rfl, trivial⟩
  · have hneq : (m != 0) = true := by simp [hm]
    have hd0 : (n.natAbs : Int) = 0 ∨ True := Or.inr trivial
    have hdv := tdiv_abs m
    have hsg := tdiv_sgn m
    have hmo : m.tmod 10 = m - 10 * m.tdiv 10 := by have := Int.tmod_add_mul_tdiv m 10; omega
    have hw1 : IntKind.i64.wrap (m.tdiv 10) = m.tdiv 10 := wrap_id (by omega) (by omega)
    have hlen := hv.len (by omega)
    have hg := hv.go hm
    by_cases hs : m.tmod 10 < 0
    · have hs' : decide (m.tmod 10 < 0) = true := decide_eq_true hs
      have hw2 : IntKind.i64.wrap (0 - m.tmod 10) = ((m.natAbs % 10 : Nat) : Int) := by rw [wrap_id (by omega) (by omega)]; omega
      have hw3 : IntKind.i64.wrap (48 + ((m.natAbs % 10 : Nat) : Int)) = 48 + ((m.natAbs % 10 : Nat) : Int) := wrap_id (by omega) (by omega)
      have hw4 : IntKind.u8.wrap (48 + ((m.natAbs % 10 : Nat) : Int)) = 48 + ((m.natAbs % 10 : Nat) : Int) := u8_wrap (by omega) (by omega)
      have hw5 : (48 + ((m.natAbs % 10 : Nat) : Int)).toNat = 48 + m.natAbs % 10 := by omega
      repeat' (first | (with_reducible first | refine awp_seq ?_ | refine awp_block ?_ | refine awp_skip ?_ | refine awp_exit ?_ | refine awp_ret ?_ | refine athen ?_ | refine thenExit ?_ | refine thenRet ?_ | refine blockNormal ?_ | refine blockExit ?_ | refine blockRet ?_ | refine roundExit ?_ | refine roundRet ?_ | refine roundExitR ?_ | refine roundRetR ?_) | ((with_reducible refine blockPass ?_ ?_); rfl) | ((with_reducible refine awp_condT ?_ ?_); rfl) | ((with_reducible refine awp_condF ?_ ?_); rfl) | (with_reducible (refine awp_condS rfl ?_ ?_); all_goals (intro hb; have hb' := hb; (try simp only [pkC] at hb'); first | (exfalso; omega) | skip)) | ((with_reducible refine awp_reg ?_); intro K hK) | ((with_reducible refine hK _ ?_); clear hK K) | (with_reducible refine and_split ?_ ?_) | ((with_reducible refine sw_id ?_); simp (disch := first | decide | omega) only [↓pkS, pkW, pkA, undef, List.flatMap_cons, List.flatMap_nil, List.append_nil, linSrc, lvsD, lvD, lcsD, lcD, lvK, lcK, sealOs, sealO, capsOf, ex, St.put, St.ev, kav, gdA, opI, rawI, vbin, srcOf, avsD, acsD, AV.toD, AC.toD, AV.nw, AC.nw, AC.one, Value.oneCell', nilS_int, nilS_string, nilS_bool, nilS_nil, nilS_func, nilS_tuple, if_true, if_false, Bool.false_eq_true, fillA, D.one, D.ones, D.sz, D.szs, Nat.reduceAdd, Nat.reduceSub, Nat.reduceLeDiff, Nat.reduceEqDiff, reduceIte, pkN, li_acs, ls_acs, ten0, hneq, hs', hw1, hw2, hw3, hw4, hw5, bytesD, cat_ok2 hlen]) | (first | (with_reducible rfl) | (with_reducible refine fnok_id ?_; kernel_rfl) | exact el_strs _ | exact el_ints _ | exact el_ln _ | exact el_tk _ _ | exact el_td _ _ _ | omega | (simp; done) | (simp; omega)) | ((with_reducible refine args_id ?_); simp [ArgsOk, ArgOk, argsD, argD, AC.toD, nilS_int, nilS_string, nilS_bool, nilS_nil, Value.oneCell', sl_flat, leaf_flat, li_flat, ls_flat, sl_agg, leaf_agg, li_agg, ls_agg, mo_t, mo_f, li_acs, ls_acs, ten0, hneq, hs', hw1, hw2, hw3, hw4, hw5, bytesD, cat_ok2 hlen]; first | done | rfl))
      refine roundB (m.tdiv 10, UInt8.ofNat (48 + m.natAbs % 10) :: o) ?_ hg (show (m.tdiv 10).natAbs < m.natAbs by omega)
      simp [StLe', FrLe, OwnLe, BoxLe, AV.fits, AC.fits, FB, mask, ba_app]
    · have hs' : decide (m.tmod 10 < 0) = false := decide_eq_false hs
      have hw2 : m.tmod 10 = ((m.natAbs % 10 : Nat) : Int) := by omega
      have hw3 : IntKind.i64.wrap (48 + ((m.natAbs % 10 : Nat) : Int)) = 48 + ((m.natAbs % 10 : Nat) : Int) := wrap_id (by omega) (by omega)
      have hw4 : IntKind.u8.wrap (48 + ((m.natAbs % 10 : Nat) : Int)) = 48 + ((m.natAbs % 10 : Nat) : Int) := u8_wrap (by omega) (by omega)
      have hw5 : (48 + ((m.natAbs % 10 : Nat) : Int)).toNat = 48 + m.natAbs % 10 := by omega
      repeat' (first | (with_reducible first | refine awp_seq ?_ | refine awp_block ?_ | refine awp_skip ?_ | refine awp_exit ?_ | refine awp_ret ?_ | refine athen ?_ | refine thenExit ?_ | refine thenRet ?_ | refine blockNormal ?_ | refine blockExit ?_ | refine blockRet ?_ | refine roundExit ?_ | refine roundRet ?_ | refine roundExitR ?_ | refine roundRetR ?_) | ((with_reducible refine blockPass ?_ ?_); rfl) | ((with_reducible refine awp_condT ?_ ?_); rfl) | ((with_reducible refine awp_condF ?_ ?_); rfl) | (with_reducible (refine awp_condS rfl ?_ ?_); all_goals (intro hb; have hb' := hb; (try simp only [pkC] at hb'); first | (exfalso; omega) | skip)) | ((with_reducible refine awp_reg ?_); intro K hK) | ((with_reducible refine hK _ ?_); clear hK K) | (with_reducible refine and_split ?_ ?_) | ((with_reducible refine sw_id ?_); simp (disch := first | decide | omega) only [↓pkS, pkW, pkA, undef, List.flatMap_cons, List.flatMap_nil, List.append_nil, linSrc, lvsD, lvD, lcsD, lcD, lvK, lcK, sealOs, sealO, capsOf, ex, St.put, St.ev, kav, gdA, opI, rawI, vbin, srcOf, avsD, acsD, AV.toD, AC.toD, AV.nw, AC.nw, AC.one, Value.oneCell', nilS_int, nilS_string, nilS_bool, nilS_nil, nilS_func, nilS_tuple, if_true, if_false, Bool.false_eq_true, fillA, D.one, D.ones, D.sz, D.szs, Nat.reduceAdd, Nat.reduceSub, Nat.reduceLeDiff, Nat.reduceEqDiff, reduceIte, pkN, li_acs, ls_acs, ten0, hneq, hs', hw1, hw2, hw3, hw4, hw5, bytesD, cat_ok2 hlen]) | (first | (with_reducible rfl) | (with_reducible refine fnok_id ?_; kernel_rfl) | exact el_strs _ | exact el_ints _ | exact el_ln _ | exact el_tk _ _ | exact el_td _ _ _ | omega | (simp; done) | (simp; omega)) | ((with_reducible refine args_id ?_); simp [ArgsOk, ArgOk, argsD, argD, AC.toD, nilS_int, nilS_string, nilS_bool, nilS_nil, Value.oneCell', sl_flat, leaf_flat, li_flat, ls_flat, sl_agg, leaf_agg, li_agg, ls_agg, mo_t, mo_f, li_acs, ls_acs, ten0, hneq, hs', hw1, hw2, hw3, hw4, hw5, bytesD, cat_ok2 hlen]; first | done | rfl))
      refine roundB (m.tdiv 10, UInt8.ofNat (48 + m.natAbs % 10) :: o) ?_ hg (show (m.tdiv 10).natAbs < m.natAbs by omega)
      simp [StLe', FrLe, OwnLe, BoxLe, AV.fits, AC.fits, FB, mask, ba_app]
end Go.Proofs.Ytnongnchpplacaa

namespace Go.Proofs.Ytnongnchpplacaa
open Go.RowKit
set_option linter.unusedSimpArgs false
set_option linter.unusedVariables false
theorem getq_mapF {α : Type} {f : α → D} {l : List α} {k : Nat} (h : k < l.length) : (l.map f)[k]? = some (f l[k]) := by rw [List.getElem?_map, List.getElem?_eq_getElem h]; rfl
def joinK (l : List ByteArray) (b : ByteArray) : Nat → List UInt8
  | 0 => []
  | k + 1 => joinK l b k ++ ((if 0 < k then b.data.toList else []) ++ (l.getD k ⟨#[]⟩).data.toList)
def joinB (l : List ByteArray) (b : ByteArray) : ByteArray := ⟨(joinK l b l.length).toArray⟩
theorem joinK_le (l : List ByteArray) (b : ByteArray) : ∀ {k n : Nat}, k ≤ n → (joinK l b k).length ≤ (joinK l b n).length
  | k, 0, h => by
    obtain rfl : k = 0 := by omega
    exact Nat.le_refl _
  | k, n + 1, h => by
    by_cases hk : k = n + 1
    · subst hk; exact Nat.le_refl _
    · have := joinK_le l b (k := k) (n := n) (by omega)
      simp only [joinK, List.length_append]
      omega
theorem joinK_step {l : List ByteArray} {b : ByteArray} {k : Nat} (h : k < l.length) : joinK l b (k + 1) = joinK l b k ++ ((if 0 < k then b.data.toList else []) ++ l[k].data.toList) := by
  simp [joinK, List.getD_eq_getElem?_getD, h]
theorem ba_size (s : ByteArray) : s.data.toList.length = s.size := by simp
def ic_join_spec : IC := (.seq (.reg false [⟨(some 4), none, .mov (.k (.string ⟨#[]⟩))⟩]) (.seq (.reg false [⟨(some 7), none, .brow true 5 1 0 false []⟩, ⟨(some 5), none, .mov (.t 7)⟩]) (.seq (.seq (.reg false [⟨(some 6), none, .mov (.k (.int .i64 0))⟩]) (.block 0 (.loop (.seq (.seq (.reg false [⟨(some 8), none, .mov (.t 6)⟩, ⟨(some 9), none, .mov (.t 0)⟩, ⟨(some 10), none, .len false (.t 9)⟩, ⟨(some 11), none, .bin .lss (.t 8) (.t 10)⟩]) (.cond (.t 11) .skip (.exit 0))) (.seq (.block 1 (.seq (.seq (.reg false [⟨(some 14), none, .mov (.t 6)⟩, ⟨(some 15), none, .bin .gtr (.t 14) (.k (.int .i64 0))⟩]) (.cond (.t 15) (.reg false [⟨(some 16), none, .mov (.t 5)⟩, ⟨(some 17), none, .mov (.t 1)⟩, ⟨(some 18), none, .apps 5 (.t 16) (.t 17)⟩, ⟨(some 5), none, .mov (.t 18)⟩]) .skip)) (.reg false [⟨(some 19), none, .mov (.t 5)⟩, ⟨(some 20), none, .mov (.t 0)⟩, ⟨(some 21), none, .mov (.t 6)⟩, ⟨(some 22), none, .iad 1 (.t 20) (.t 21)⟩, ⟨(some 23), none, .load 1 false (.t 22)⟩, ⟨(some 24), none, .apps 5 (.t 19) (.t 23)⟩, ⟨(some 5), none, .mov (.t 24)⟩]))) (.reg false [⟨(some 12), none, .mov (.t 6)⟩, ⟨(some 13), none, .bin .add (.t 12) (.k (.int .i64 1))⟩, ⟨(some 6), none, .mov (.t 13)⟩])))))) (.seq (.reg false [⟨(some 25), none, .mov (.t 5)⟩, ⟨(some 26), none, .cvs (.t 25)⟩, ⟨(some 4), none, .mov (.t 26)⟩]) .ret))))
theorem ic_join_spec_ok : compC Try.prog (Try.f69.body.getD .skip) = some ic_join_spec := by kernel_rfl
set_option maxHeartbeats 8000000 in
theorem join_spec_to (l : List ByteArray) (b : ByteArray) (hb : (joinK l b l.length).length ≤ 1073741824) (hn : l.length ≤ 4194304) : CallsTo Try.prog 69 [.sl (l.map ls), ls b] (.c false [.raw (.string (joinB l b))]) := by
  refine calls_one (fn := Try.f69) (t := 4) (by kernel_rfl) (by kernel_rfl) (by kernel_rfl) ic_join_spec_ok ?_
  unfold ic_join_spec
  change AWP _ _ _ (st0 27 _)
  simp only [undef, stS, st0, stN, D.av, D.avN, sl_agg, leaf_agg, li_agg, ls_agg, sl_acs, leaf_acs, li_acs, ls_acs, GCell.acs_eq, GCell.flat_eq, GCell.agg_eq, List.map_cons, List.map_nil, List.replicate, List.cons_append, List.nil_append, List.length_cons, List.length_nil, Nat.reduceAdd, Nat.reduceSub]
  repeat' (first | (with_reducible first | refine awp_seq ?_ | refine awp_block ?_ | refine awp_skip ?_ | refine awp_exit ?_ | refine awp_ret ?_ | refine athen ?_ | refine thenExit ?_ | refine thenRet ?_ | refine blockNormal ?_ | refine blockExit ?_ | refine blockRet ?_ | refine roundExit ?_ | refine roundRet ?_ | refine roundExitR ?_ | refine roundRetR ?_) | ((with_reducible refine blockPass ?_ ?_); rfl) | ((with_reducible refine awp_condT ?_ ?_); rfl) | ((with_reducible refine awp_condF ?_ ?_); rfl) | (with_reducible (refine awp_condS rfl ?_ ?_); all_goals (intro hb; have hb' := hb; (try simp only [pkC] at hb'); first | (exfalso; omega) | skip)) | ((with_reducible refine awp_reg ?_); intro K hK) | ((with_reducible refine hK _ ?_); clear hK K) | (with_reducible refine and_split ?_ ?_) | ((with_reducible refine sw_id ?_); simp (disch := first | decide | omega) only [↓pkS, pkW, pkA, undef, List.flatMap_cons, List.flatMap_nil, List.append_nil, linSrc, lvsD, lvD, lcsD, lcD, lvK, lcK, sealOs, sealO, capsOf, ex, St.put, St.ev, kav, gdA, opI, rawI, vbin, srcOf, avsD, acsD, AV.toD, AC.toD, AV.nw, AC.nw, AC.one, Value.oneCell', nilS_int, nilS_string, nilS_bool, nilS_nil, nilS_func, nilS_tuple, if_true, if_false, Bool.false_eq_true, fillA, D.one, D.ones, D.sz, D.szs, Nat.reduceAdd, Nat.reduceSub, Nat.reduceLeDiff, Nat.reduceEqDiff, reduceIte, pkN, li_acs, ls_acs, sl_acs, GCell.acs_eq, GCell.flat_eq, GCell.agg_eq, getq_mapF]) | (first | (with_reducible rfl) | (with_reducible refine fnok_id ?_; kernel_rfl) | exact el_strs _ | exact el_ints _ | exact el_ln _ | exact el_tk _ _ | exact el_td _ _ _ | omega | (simp; done) | (simp; omega)) | ((with_reducible refine args_id ?_); simp [ArgsOk, ArgOk, argsD, argD, AC.toD, nilS_int, nilS_string, nilS_bool, nilS_nil, Value.oneCell', sl_flat, leaf_flat, li_flat, ls_flat, sl_agg, leaf_agg, li_agg, ls_agg, mo_t, mo_f, li_acs, ls_acs, sl_acs, GCell.acs_eq, GCell.flat_eq, GCell.agg_eq, getq_mapF]; first | done | rfl))
  refine awp_loopB (X := Nat × Nat) (fun q => [.k, .k, .d, .d, .d, .v (.c false [.own 0 q.2]), .v (.c false [.raw (.int .i64 (q.1 : Nat))]), .d, .d, .d, .d, .d, .d, .d, .d, .d, .d, .d, .d, .d, .d, .d, .d, .d, .d, .d, .d]) (fun q => [⟨(joinK l b q.1).map lu8, 5, 1, q.2, true⟩]) (fun q bs => []) (fun q => q.1 ≤ l.length) (fun q => l.length - q.1) (0, 0) (Nat.zero_le _) ?_ ?_
  · simp [StLe', FrLe, OwnLe, BoxLe, AV.fits, AC.fits, FB, mask, joinK]
  rintro ⟨k, v⟩ hk
  have hk : k ≤ l.length := hk
  simp only [FB, mask]
  by_cases hlt : k < l.length
  · have hm := joinK_le l b (show k + 1 ≤ l.length by omega)
    have hs := joinK_step (b := b) hlt
    have hsl := congrArg List.length hs
    by_cases h0 : 0 < k
    · have h0' : decide ((k : Int) > 0) = true := decide_eq_true (by omega)
      rw [if_pos h0] at hs hsl
      simp only [List.length_append, ba_size] at hsl
      repeat' (first | (with_reducible first | refine awp_seq ?_ | refine awp_block ?_ | refine awp_skip ?_ | refine awp_exit ?_ | refine awp_ret ?_ | refine athen ?_ | refine thenExit ?_ | refine thenRet ?_ | refine blockNormal ?_ | refine blockExit ?_ | refine blockRet ?_ | refine roundExit ?_ | refine roundRet ?_ | refine roundExitR ?_ | refine roundRetR ?_) | ((with_reducible refine blockPass ?_ ?_); rfl) | ((with_reducible refine awp_condT ?_ ?_); rfl) | ((with_reducible refine awp_condF ?_ ?_); rfl) | (with_reducible (refine awp_condS rfl ?_ ?_); all_goals (intro hb; have hb' := hb; (try simp only [pkC] at hb'); first | (exfalso; omega) | skip)) | ((with_reducible refine awp_reg ?_); intro K hK) | ((with_reducible refine hK _ ?_); clear hK K) | (with_reducible refine and_split ?_ ?_) | ((with_reducible refine sw_id ?_); simp (disch := first | decide | omega) only [↓pkS, pkW, pkA, undef, List.flatMap_cons, List.flatMap_nil, List.append_nil, linSrc, lvsD, lvD, lcsD, lcD, lvK, lcK, sealOs, sealO, capsOf, ex, St.put, St.ev, kav, gdA, opI, rawI, vbin, srcOf, avsD, acsD, AV.toD, AC.toD, AV.nw, AC.nw, AC.one, Value.oneCell', nilS_int, nilS_string, nilS_bool, nilS_nil, nilS_func, nilS_tuple, if_true, if_false, Bool.false_eq_true, fillA, D.one, D.ones, D.sz, D.szs, Nat.reduceAdd, Nat.reduceSub, Nat.reduceLeDiff, Nat.reduceEqDiff, reduceIte, pkN, li_acs, ls_acs, sl_acs, GCell.acs_eq, GCell.flat_eq, GCell.agg_eq, getq_mapF, h0', strD_len, List.length_append, List.length_map]) | (first | (with_reducible rfl) | (with_reducible refine fnok_id ?_; kernel_rfl) | exact el_strs _ | exact el_ints _ | exact el_ln _ | exact el_tk _ _ | exact el_td _ _ _ | omega | (simp; done) | (simp; omega)) | ((with_reducible refine args_id ?_); simp [ArgsOk, ArgOk, argsD, argD, AC.toD, nilS_int, nilS_string, nilS_bool, nilS_nil, Value.oneCell', sl_flat, leaf_flat, li_flat, ls_flat, sl_agg, leaf_agg, li_agg, ls_agg, mo_t, mo_f, li_acs, ls_acs, sl_acs, GCell.acs_eq, GCell.flat_eq, GCell.agg_eq, getq_mapF, h0', strD_len, List.length_append, List.length_map]; first | done | rfl))
      refine roundB (k + 1, v + 2) ?_ (show k + 1 ≤ l.length by omega) (show l.length - (k + 1) < l.length - k by omega)
      simp [StLe', FrLe, OwnLe, BoxLe, AV.fits, AC.fits, FB, mask, hs, strD]
    · have h0' : decide ((k : Int) > 0) = false := decide_eq_false (by omega)
      rw [if_neg h0] at hs hsl
      simp only [List.length_append, ba_size, List.length_nil] at hsl
      repeat' (first | (with_reducible first | refine awp_seq ?_ | refine awp_block ?_ | refine awp_skip ?_ | refine awp_exit ?_ | refine awp_ret ?_ | refine athen ?_ | refine thenExit ?_ | refine thenRet ?_ | refine blockNormal ?_ | refine blockExit ?_ | refine blockRet ?_ | refine roundExit ?_ | refine roundRet ?_ | refine roundExitR ?_ | refine roundRetR ?_) | ((with_reducible refine blockPass ?_ ?_); rfl) | ((with_reducible refine awp_condT ?_ ?_); rfl) | ((with_reducible refine awp_condF ?_ ?_); rfl) | (with_reducible (refine awp_condS rfl ?_ ?_); all_goals (intro hb; have hb' := hb; (try simp only [pkC] at hb'); first | (exfalso; omega) | skip)) | ((with_reducible refine awp_reg ?_); intro K hK) | ((with_reducible refine hK _ ?_); clear hK K) | (with_reducible refine and_split ?_ ?_) | ((with_reducible refine sw_id ?_); simp (disch := first | decide | omega) only [↓pkS, pkW, pkA, undef, List.flatMap_cons, List.flatMap_nil, List.append_nil, linSrc, lvsD, lvD, lcsD, lcD, lvK, lcK, sealOs, sealO, capsOf, ex, St.put, St.ev, kav, gdA, opI, rawI, vbin, srcOf, avsD, acsD, AV.toD, AC.toD, AV.nw, AC.nw, AC.one, Value.oneCell', nilS_int, nilS_string, nilS_bool, nilS_nil, nilS_func, nilS_tuple, if_true, if_false, Bool.false_eq_true, fillA, D.one, D.ones, D.sz, D.szs, Nat.reduceAdd, Nat.reduceSub, Nat.reduceLeDiff, Nat.reduceEqDiff, reduceIte, pkN, li_acs, ls_acs, sl_acs, GCell.acs_eq, GCell.flat_eq, GCell.agg_eq, getq_mapF, h0', strD_len, List.length_append, List.length_map]) | (first | (with_reducible rfl) | (with_reducible refine fnok_id ?_; kernel_rfl) | exact el_strs _ | exact el_ints _ | exact el_ln _ | exact el_tk _ _ | exact el_td _ _ _ | omega | (simp; done) | (simp; omega)) | ((with_reducible refine args_id ?_); simp [ArgsOk, ArgOk, argsD, argD, AC.toD, nilS_int, nilS_string, nilS_bool, nilS_nil, Value.oneCell', sl_flat, leaf_flat, li_flat, ls_flat, sl_agg, leaf_agg, li_agg, ls_agg, mo_t, mo_f, li_acs, ls_acs, sl_acs, GCell.acs_eq, GCell.flat_eq, GCell.agg_eq, getq_mapF, h0', strD_len, List.length_append, List.length_map]; first | done | rfl))
      refine roundB (k + 1, v + 1) ?_ (show k + 1 ≤ l.length by omega) (show l.length - (k + 1) < l.length - k by omega)
      simp [StLe', FrLe, OwnLe, BoxLe, AV.fits, AC.fits, FB, mask, hs, strD]
  obtain rfl : k = l.length := by omega
  repeat' (first | (with_reducible first | refine awp_seq ?_ | refine awp_block ?_ | refine awp_skip ?_ | refine awp_exit ?_ | refine awp_ret ?_ | refine athen ?_ | refine thenExit ?_ | refine thenRet ?_ | refine blockNormal ?_ | refine blockExit ?_ | refine blockRet ?_ | refine roundExit ?_ | refine roundRet ?_ | refine roundExitR ?_ | refine roundRetR ?_) | ((with_reducible refine blockPass ?_ ?_); rfl) | ((with_reducible refine awp_condT ?_ ?_); rfl) | ((with_reducible refine awp_condF ?_ ?_); rfl) | (with_reducible (refine awp_condS rfl ?_ ?_); all_goals (intro hb; have hb' := hb; (try simp only [pkC] at hb'); first | (exfalso; omega) | skip)) | ((with_reducible refine awp_reg ?_); intro K hK) | ((with_reducible refine hK _ ?_); clear hK K) | (with_reducible refine and_split ?_ ?_) | ((with_reducible refine sw_id ?_); simp (disch := first | decide | omega) only [↓pkS, pkW, pkA, undef, List.flatMap_cons, List.flatMap_nil, List.append_nil, linSrc, lvsD, lvD, lcsD, lcD, lvK, lcK, sealOs, sealO, capsOf, ex, St.put, St.ev, kav, gdA, opI, rawI, vbin, srcOf, avsD, acsD, AV.toD, AC.toD, AV.nw, AC.nw, AC.one, Value.oneCell', nilS_int, nilS_string, nilS_bool, nilS_nil, nilS_func, nilS_tuple, if_true, if_false, Bool.false_eq_true, fillA, D.one, D.ones, D.sz, D.szs, Nat.reduceAdd, Nat.reduceSub, Nat.reduceLeDiff, Nat.reduceEqDiff, reduceIte, pkN, li_acs, ls_acs, sl_acs, GCell.acs_eq, GCell.flat_eq, GCell.agg_eq, getq_mapF, bytesD_map]) | (first | (with_reducible rfl) | (with_reducible refine fnok_id ?_; kernel_rfl) | exact el_strs _ | exact el_ints _ | exact el_ln _ | exact el_tk _ _ | exact el_td _ _ _ | omega | (simp; done) | (simp; omega)) | ((with_reducible refine args_id ?_); simp [ArgsOk, ArgOk, argsD, argD, AC.toD, nilS_int, nilS_string, nilS_bool, nilS_nil, Value.oneCell', sl_flat, leaf_flat, li_flat, ls_flat, sl_agg, leaf_agg, li_agg, ls_agg, mo_t, mo_f, li_acs, ls_acs, sl_acs, GCell.acs_eq, GCell.flat_eq, GCell.agg_eq, getq_mapF, bytesD_map]; first | done | rfl))
  exact endRet ⟨_, rfl, rfl, trivial⟩
end Go.Proofs.Ytnongnchpplacaa

namespace Go.Proofs.Ytnongnchpplacaa
open Go.RowKit
set_option linter.unusedSimpArgs false
set_option linter.unusedVariables false
theorem szD (xs : Array UInt8) : ByteArray.size ⟨xs⟩ = xs.size := rfl
theorem tns : Int.toNat 1 = 1 ∧ Int.toNat 2 = 2 ∧ Int.toNat 3 = 3 ∧ Int.toNat 4 = 4 ∧ Int.toNat 5 = 5 := ⟨rfl, rfl, rfl, rfl, rfl⟩
theorem catfN {n : Nat} (h : n ≤ 9223372036854775807) : (((n : Nat) : Int) > IntKind.i64.max) = False := by
  have e3 : IntKind.i64.max = 9223372036854775807 := by decide
  rw [e3]
  simp
  omega
theorem catfI {a b : Nat} (h : a + b ≤ 9223372036854775807) : ((9223372036854775807 : Int) < (a : Int) + (b : Int)) = False := by
  simp
  omega
def bsz : List ByteArray → Nat
  | [] => 0
  | s :: l => s.size + bsz l
theorem bsz_app : ∀ (a b : List ByteArray), bsz (a ++ b) = bsz a + bsz b
  | [], b => by simp [bsz]
  | s :: a, b => by simp only [List.cons_append, bsz]; rw [bsz_app a b, Nat.add_assoc]
theorem joinK_bsz (l : List ByteArray) (b : ByteArray) : ∀ k, k ≤ l.length → (joinK l b k).length ≤ bsz (l.take k) + k * b.size
  | 0, _ => by simp [joinK]
  | k + 1, h => by
    have ih := joinK_bsz l b k (by omega)
    rw [joinK_step (by omega), List.length_append, List.length_append, List.take_succ_eq_append_getElem (by omega), bsz_app, Nat.succ_mul]
    have h1 : (if 0 < k then b.data.toList else []).length ≤ b.size := by split <;> simp
    have h2 : (l[k]).data.toList.length = (l[k]).size := by simp
    have h3 : bsz [l[k]] = (l[k]).size := by simp [bsz]
    omega
theorem joinB_bsz (l : List ByteArray) (b : ByteArray) : (joinB l b).size ≤ bsz l + l.length * b.size := by
  have := joinK_bsz l b l.length (Nat.le_refl _)
  rw [List.take_length] at this
  have h2 : (joinB l b).size = (joinK l b l.length).length := by simp [joinB, ByteArray.size]
  rw [h2]
  exact this
theorem finX_raw {P : Program} {t : Nat} {v : Value} {st : St} {post : AV → List Own → Prop} (h1 : st.fr.getD t .any = .c false [.raw v]) (hp : placeOk P (.tmp t) false 1 = true) (hq : post (.c false [.raw v]) []) : AEnd (FinE1 P (.tmp t) post) .ret st :=
  ⟨false, _, [], [], hq, by simp [AC.out], by simp, trivial, hp, _, h1, by simp [AcsFitsD, AcFitsD]⟩
def fmtBd (e : GExpr) : Nat := 32 + 40 * e.toD.wt
def fmtBds : List GExpr → Nat
  | [] => 0
  | e :: l => fmtBd e + fmtBds l
theorem fmtBds_app : ∀ (a b : List GExpr), fmtBds (a ++ b) = fmtBds a + fmtBds b
  | [], b => by simp [fmtBds]
  | s :: a, b => by simp only [List.cons_append, fmtBds]; rw [fmtBds_app a b, Nat.add_assoc]
theorem fmtBds_eq : ∀ (l : List GExpr), fmtBds l = 32 * l.length + 40 * D.wts (l.map GExpr.toD)
  | [] => by simp [fmtBds, D.wts]
  | e :: l => by rw [fmtBds, fmtBds_eq l, List.map_cons, D.wts, List.length_cons, fmtBd]; omega
theorem fmtBd_eq (e : GExpr) : fmtBd e = 32 + 40 * e.text.size + 8 * e.args.length + fmtBds e.args := by
  rw [fmtBds_eq, fmtBd, GExpr.wt_eq e, List.length_map]; omega
theorem allN_mem {e y : GExpr} (h : e.allN = true) (hy : y ∈ e.args) : y.allN = true := by
  rw [allN_eq, Bool.and_eq_true, List.all_eq_true] at h
  exact h.1 y hy
theorem allN_node {e : GExpr} (h : e.allN = true) : nodeB e = true := by
  rw [allN_eq, Bool.and_eq_true] at h
  exact h.2
theorem nodeB_kind {e : GExpr} (h : nodeB e = true) : (e.kind = 1 ∧ 0 ≤ e.n ∧ e.n ≤ 1000000000) ∨ e.kind = 2 ∨ e.kind = 3 ∨ e.kind = 4 ∨ e.kind = 5 ∨ (e.kind = 6 ∧ e.args.length = 2 ∧ 1 ≤ e.n ∧ e.n ≤ 5) ∨ (e.kind = 7 ∧ e.args.length = 2) ∨ (e.kind = 8 ∧ e.args.length = 3) ∨ (e.kind = 9 ∧ e.args.length = 2) := by
  unfold nodeB at h
  repeat' split at h
  all_goals first
    | (simp [inR] at h; omega)
    | omega
    | (simp at h)
def ic_level : IC := (.seq (.reg false [⟨(some 1), none, .box (.t 0)⟩, ⟨(some 2), none, .mov (.k (.int .i64 0))⟩]) (.seq (.seq (.reg false [⟨(some 3), none, .fad 0 (.t 1)⟩, ⟨(some 4), none, .load 1 false (.t 3)⟩]) (.block 0 (.seq (.seq (.reg false [⟨(some 6), none, .bin .eql (.t 4) (.k (.int .i64 7))⟩, ⟨(some 5), none, .mov (.t 6)⟩]) (.cond (.t 5) .skip (.seq (.reg false [⟨(some 7), none, .bin .eql (.t 4) (.k (.int .i64 8))⟩, ⟨(some 5), none, .mov (.t 7)⟩]) (.cond (.t 5) .skip (.reg false [⟨(some 8), none, .bin .eql (.t 4) (.k (.int .i64 9))⟩, ⟨(some 5), none, .mov (.t 8)⟩]))))) (.cond (.t 5) (.seq (.reg false [⟨(some 2), none, .mov (.k (.int .i64 0))⟩]) .ret) (.seq (.reg false [⟨(some 10), none, .bin .eql (.t 4) (.k (.int .i64 6))⟩, ⟨(some 9), none, .mov (.t 10)⟩]) (.cond (.t 9) (.seq (.reg false [⟨(some 11), none, .fad 1 (.t 1)⟩, ⟨(some 12), none, .load 1 false (.t 11)⟩]) (.block 1 (.seq (.seq (.reg false [⟨(some 14), none, .bin .eql (.t 12) (.k (.int .i64 4))⟩, ⟨(some 13), none, .mov (.t 14)⟩]) (.cond (.t 13) .skip (.reg false [⟨(some 15), none, .bin .eql (.t 12) (.k (.int .i64 5))⟩, ⟨(some 13), none, .mov (.t 15)⟩]))) (.cond (.t 13) (.seq (.reg false [⟨(some 2), none, .mov (.k (.int .i64 1))⟩]) .ret) (.seq (.seq (.reg false [⟨(some 17), none, .bin .eql (.t 12) (.k (.int .i64 1))⟩, ⟨(some 16), none, .mov (.t 17)⟩]) (.cond (.t 16) .skip (.reg false [⟨(some 18), none, .bin .eql (.t 12) (.k (.int .i64 2))⟩, ⟨(some 16), none, .mov (.t 18)⟩]))) (.cond (.t 16) (.seq (.reg false [⟨(some 2), none, .mov (.k (.int .i64 2))⟩]) .ret) (.seq (.reg false [⟨(some 20), none, .bin .eql (.t 12) (.k (.int .i64 3))⟩, ⟨(some 19), none, .mov (.t 20)⟩]) (.cond (.t 19) (.seq (.reg false [⟨(some 2), none, .mov (.k (.int .i64 3))⟩]) .ret) .skip)))))))) .skip)))))) (.seq (.reg false [⟨(some 2), none, .mov (.k (.int .i64 4))⟩]) .ret)))
theorem ic_level_ok : compC Try.prog (Try.f90.body.getD .skip) = some ic_level := by kernel_rfl
set_option maxRecDepth 8000 in
set_option maxHeartbeats 8000000 in
theorem level_x (e : GExpr) : CallsXE Try.prog 90 [e.toD] (fun r os' => (∃ n : Int, 0 ≤ n ∧ n ≤ 4 ∧ r = .c false [.raw (.int .i64 n)]) ∧ os' = []) := by
  refine calls_xe (fn := Try.f90) (r := .tmp 2) (by kernel_rfl) (by kernel_rfl) (by kernel_rfl) ic_level_ok ?_
  unfold ic_level
  change AWP _ _ _ (st0 21 _)
  simp only [undef, stS, st0, stN, D.av, D.avN, sl_agg, leaf_agg, li_agg, ls_agg, sl_acs, leaf_acs, li_acs, ls_acs, GExpr.acs_eq, GExpr.flat_eq, GExpr.agg_eq, List.map_cons, List.map_nil, List.replicate, List.cons_append, List.nil_append, List.length_cons, List.length_nil, Nat.reduceAdd, Nat.reduceSub, Nat.reduceLeDiff, Nat.reduceEqDiff]
  have kk : ∀ j : Int, (e.kind == j) = decide (e.kind = j) := fun j => by by_cases h : e.kind = j <;> simp [h]
  have nn : ∀ j : Int, (e.n == j) = decide (e.n = j) := fun j => by by_cases h : e.n = j <;> simp [h]
  repeat' (first | (with_reducible first | refine awp_seq ?_ | refine awp_block ?_ | refine awp_skip ?_ | refine awp_exit ?_ | refine awp_ret ?_ | refine athen ?_ | refine thenExit ?_ | refine thenRet ?_ | refine blockNormal ?_ | refine blockExit ?_ | refine blockRet ?_ | refine roundExit ?_ | refine roundRet ?_ | refine roundExitR ?_ | refine roundRetR ?_) | ((with_reducible refine blockPass ?_ ?_); rfl) | ((with_reducible refine awp_condT ?_ ?_); rfl) | ((with_reducible refine awp_condF ?_ ?_); rfl) | (with_reducible (refine awp_condS rfl ?_ ?_); all_goals (intro hb; have hb' := hb; (try simp only [pkC] at hb'); first | (exfalso; omega) | skip)) | ((with_reducible refine awp_reg ?_); intro K hK) | ((with_reducible refine hK _ ?_); clear hK K) | (with_reducible refine and_split ?_ ?_) | ((with_reducible refine sw_id ?_); simp (disch := first | decide | omega) only [↓pkS, pkW, pkA, pkZ, List.flatMap_cons, List.flatMap_nil, List.append_nil, linSrc, lvD, lcD, lvK, lcK, capsOf, ex, kav, gdA, opI, rawI, vbin, srcOf, AV.toD, AC.toD, AV.nw, AC.nw, AC.one, Value.oneCell', if_true, if_false, Bool.false_eq_true, fillA, D.one, D.sz, Nat.reduceAdd, Nat.reduceSub, Nat.reduceLeDiff, Nat.reduceEqDiff, reduceIte, pkN, Int.reduceLT, Int.reduceLE, li_acs, ls_acs, GExpr.acs_eq, GExpr.flat_eq, GExpr.agg_eq, AV.fl, AC.fl, AV.shift, AC.shift, List.append_nil]) | (exact GExpr.el _) | exact bndQ | exact argsQ)
  all_goals exact finX_raw rfl rfl ⟨⟨_, by decide, by decide, rfl⟩, rfl⟩
def ic_symbol : IC := (.seq (.reg false [⟨(some 2), none, .mov (.k (.string ⟨#[]⟩))⟩]) (.seq (.seq (.reg false [⟨(some 3), none, .mov (.t 0)⟩, ⟨(some 4), none, .call 44 [(.t 3), (.k (.int .i64 1)), (.k (.int .i64 5))]⟩, ⟨(some 5), none, .not (.t 4)⟩]) (.cond (.t 5) (.seq (.reg false [⟨(some 2), none, .mov (.k (.string ⟨#[63]⟩))⟩]) .ret) .skip)) (.seq (.reg false [⟨(some 6), none, .brow true 9 1 6 false [(.k (.string ⟨#[]⟩)), (.k (.string ⟨#[43]⟩)), (.k (.string ⟨#[45]⟩)), (.k (.string ⟨#[42]⟩)), (.k (.string ⟨#[60]⟩)), (.k (.string ⟨#[61, 61]⟩))]⟩, ⟨(some 7), none, .mov (.t 0)⟩, ⟨(some 8), none, .iad 1 (.t 6) (.t 7)⟩, ⟨(some 9), none, .load 1 false (.t 8)⟩, ⟨(some 2), none, .mov (.t 9)⟩]) .ret)))
theorem ic_symbol_ok : compC Try.prog (Try.f92.body.getD .skip) = some ic_symbol := by kernel_rfl
set_option maxRecDepth 8000 in
set_option maxHeartbeats 8000000 in
theorem symbol_x (n : Int) (h0 : 1 ≤ n) (h1 : n ≤ 5) : CallsXE Try.prog 92 [li n] (fun r os' => (∃ s : ByteArray, s.size ≤ 2 ∧ r = .c false [.raw (.string s)]) ∧ os' = []) := by
  refine calls_xe (fn := Try.f92) (r := .tmp 2) (by kernel_rfl) (by kernel_rfl) (by kernel_rfl) ic_symbol_ok ?_
  unfold ic_symbol
  change AWP _ _ _ (st0 10 _)
  simp only [undef, stS, st0, stN, D.av, D.avN, sl_agg, leaf_agg, li_agg, ls_agg, sl_acs, leaf_acs, li_acs, ls_acs, GExpr.acs_eq, GExpr.flat_eq, GExpr.agg_eq, List.map_cons, List.map_nil, List.replicate, List.cons_append, List.nil_append, List.length_cons, List.length_nil, Nat.reduceAdd, Nat.reduceSub, Nat.reduceLeDiff, Nat.reduceEqDiff]
  have c1 := inZ_spec_to n 1 5
  have hi : inR n 1 5 = true := by simp [inR, h0, h1]
  rw [hi] at c1
  have hn : n = 1 ∨ n = 2 ∨ n = 3 ∨ n = 4 ∨ n = 5 := by omega
  rcases hn with rfl | rfl | rfl | rfl | rfl
  all_goals (repeat' (first | (with_reducible first | refine awp_seq ?_ | refine awp_block ?_ | refine awp_skip ?_ | refine awp_exit ?_ | refine awp_ret ?_ | refine athen ?_ | refine thenExit ?_ | refine thenRet ?_ | refine blockNormal ?_ | refine blockExit ?_ | refine blockRet ?_ | refine roundExit ?_ | refine roundRet ?_ | refine roundExitR ?_ | refine roundRetR ?_) | ((with_reducible refine blockPass ?_ ?_); rfl) | ((with_reducible refine awp_condT ?_ ?_); rfl) | ((with_reducible refine awp_condF ?_ ?_); rfl) | (with_reducible (refine awp_condS rfl ?_ ?_); all_goals (intro hb; have hb' := hb; (try simp only [pkC] at hb'); first | (exfalso; omega) | skip)) | ((with_reducible refine awp_reg ?_); intro K hK) | ((with_reducible refine hK _ ?_); clear hK K) | (with_reducible refine and_split ?_ ?_) | ((with_reducible refine ct_id ?_); first | refine callT1 (hc := c1) (h := ?_)) | ((with_reducible refine sw_id ?_); simp (disch := first | decide | omega) only [↓pkS, pkW, pkA, pkZ, List.flatMap_cons, List.flatMap_nil, List.append_nil, linSrc, lvD, lcD, lvK, lcK, capsOf, ex, kav, gdA, opI, rawI, vbin, srcOf, AV.toD, AC.toD, AV.nw, AC.nw, AC.one, Value.oneCell', if_true, if_false, Bool.false_eq_true, fillA, D.one, D.sz, Nat.reduceAdd, Nat.reduceSub, Nat.reduceLeDiff, Nat.reduceEqDiff, reduceIte, pkN, Int.reduceLT, Int.reduceLE, li_acs, ls_acs, GExpr.acs_eq, GExpr.flat_eq, GExpr.agg_eq, AV.fl, AC.fl, AV.shift, AC.shift, List.append_nil, tns, leaf_acs, List.getElem?_cons_succ, List.getElem?_cons_zero, List.length_cons, List.length_nil, List.take_succ_cons, List.take_zero, Nat.reduceAdd]) | (exact GExpr.el _) | exact bndQ | exact argsQ))
  all_goals first
    | exact el_strs [⟨#[]⟩, ⟨#[43]⟩, ⟨#[45]⟩, ⟨#[42]⟩, ⟨#[60]⟩, ⟨#[61, 61]⟩]
    | (exact finX_raw rfl rfl ⟨⟨_, by decide, rfl⟩, rfl⟩)
def Said_text (e : GExpr) : Prop := CallsXE Try.prog 84 [e.toD] (fun r os' => (∃ s : ByteArray, s.size ≤ fmtBd e ∧ r = .c false [.raw (.string s)]) ∧ os' = [])
def ic_fat : IC := (.seq (.reg false [⟨(some 2), none, .box (.t 0)⟩, ⟨(some 4), none, .mov (.k (.string ⟨#[]⟩))⟩]) (.seq (.reg false [⟨(some 6), none, .load 4 true (.t 2)⟩, ⟨(some 7), none, .call 84 [(.t 6)]⟩, ⟨(some 5), none, .mov (.t 7)⟩]) (.seq (.seq (.reg false [⟨(some 8), none, .load 4 true (.t 2)⟩, ⟨(some 9), none, .call 90 [(.t 8)]⟩, ⟨(some 10), none, .mov (.t 1)⟩, ⟨(some 11), none, .bin .lss (.t 9) (.t 10)⟩]) (.cond (.t 11) (.seq (.reg false [⟨(some 12), none, .mov (.t 5)⟩, ⟨(some 13), none, .bin .add (.k (.string ⟨#[40]⟩)) (.t 12)⟩, ⟨(some 14), none, .bin .add (.t 13) (.k (.string ⟨#[41]⟩))⟩, ⟨(some 4), none, .mov (.t 14)⟩]) .ret) .skip)) (.seq (.reg false [⟨(some 15), none, .mov (.t 5)⟩, ⟨(some 4), none, .mov (.t 15)⟩]) .ret))))
theorem ic_fat_ok : compC Try.prog (Try.f91.body.getD .skip) = some ic_fat := by kernel_rfl
set_option maxRecDepth 8000 in
set_option maxHeartbeats 8000000 in
theorem fat_x (e : GExpr) (m : Int) (hw : fmtBd e ≤ 100000000) (hI : Said_text e) : CallsXE Try.prog 91 [e.toD, li m] (fun r os' => (∃ s : ByteArray, s.size ≤ fmtBd e + 2 ∧ r = .c false [.raw (.string s)]) ∧ os' = []) := by
  refine calls_xe (fn := Try.f91) (r := .tmp 4) (by kernel_rfl) (by kernel_rfl) (by kernel_rfl) ic_fat_ok ?_
  unfold ic_fat
  change AWP _ _ _ (st0 16 _)
  simp only [undef, stS, st0, stN, D.av, D.avN, sl_agg, leaf_agg, li_agg, ls_agg, sl_acs, leaf_acs, li_acs, ls_acs, GExpr.acs_eq, GExpr.flat_eq, GExpr.agg_eq, List.map_cons, List.map_nil, List.replicate, List.cons_append, List.nil_append, List.length_cons, List.length_nil, Nat.reduceAdd, Nat.reduceSub, Nat.reduceLeDiff, Nat.reduceEqDiff]
  unfold Said_text at hI
  repeat' (first | (with_reducible first | refine awp_seq ?_ | refine awp_block ?_ | refine awp_skip ?_ | refine awp_exit ?_ | refine awp_ret ?_ | refine athen ?_ | refine thenExit ?_ | refine thenRet ?_ | refine blockNormal ?_ | refine blockExit ?_ | refine blockRet ?_ | refine roundExit ?_ | refine roundRet ?_ | refine roundExitR ?_ | refine roundRetR ?_) | ((with_reducible refine blockPass ?_ ?_); rfl) | ((with_reducible refine awp_condT ?_ ?_); rfl) | ((with_reducible refine awp_condF ?_ ?_); rfl) | (with_reducible (refine awp_condS rfl ?_ ?_); all_goals (intro hb; have hb' := hb; (try simp only [pkC] at hb'); first | (exfalso; omega) | skip)) | ((with_reducible refine awp_reg ?_); intro K hK) | ((with_reducible refine hK _ ?_); clear hK K) | (with_reducible refine and_split ?_ ?_) | ((with_reducible refine ct_id ?_); first | (refine callX1 (h := hI) (hK := ?_); rintro _ _ ⟨⟨s, hs, rfl⟩, rfl⟩) | (refine callX1 (h := (level_x e)) (hK := ?_); rintro _ _ ⟨⟨lv, hl0, hl1, rfl⟩, rfl⟩)) | ((with_reducible refine sw_id ?_); simp (disch := first | decide | omega) only [↓pkS, pkW, pkA, pkZ, List.flatMap_cons, List.flatMap_nil, List.append_nil, linSrc, lvD, lcD, lvK, lcK, capsOf, ex, kav, gdA, opI, rawI, vbin, srcOf, AV.toD, AC.toD, AV.nw, AC.nw, AC.one, Value.oneCell', if_true, if_false, Bool.false_eq_true, fillA, D.one, D.sz, Nat.reduceAdd, Nat.reduceSub, Nat.reduceLeDiff, Nat.reduceEqDiff, reduceIte, pkN, Int.reduceLT, Int.reduceLE, li_acs, ls_acs, GExpr.acs_eq, GExpr.flat_eq, GExpr.agg_eq, AV.fl, AC.fl, AV.shift, AC.shift, List.append_nil, catfN, catfI, ByteArray.size_append, szD, List.size_toArray, List.length_cons, List.length_nil, Nat.reduceAdd]) | (exact GExpr.el _) | exact bndQ | exact argsQ)
  all_goals exact finX_raw rfl rfl ⟨⟨_, by first | omega | (simp only [ByteArray.size_append, szD, List.size_toArray, List.length_cons, List.length_nil]; omega), rfl⟩, rfl⟩
def ic_flist : IC := (.seq (.reg false [⟨(some 2), none, .mov (.k (.string ⟨#[]⟩))⟩]) (.seq (.reg false [⟨(some 5), none, .brow true 9 1 0 false []⟩, ⟨(some 3), none, .mov (.t 5)⟩]) (.seq (.seq (.reg false [⟨(some 4), none, .mov (.k (.int .i64 0))⟩]) (.block 0 (.loop (.seq (.seq (.reg false [⟨(some 6), none, .mov (.t 4)⟩, ⟨(some 7), none, .mov (.t 0)⟩, ⟨(some 8), none, .len false (.t 7)⟩, ⟨(some 9), none, .bin .lss (.t 6) (.t 8)⟩]) (.cond (.t 9) .skip (.exit 0))) (.seq (.block 1 (.reg false [⟨(some 12), none, .mov (.t 3)⟩, ⟨(some 13), none, .mov (.t 0)⟩, ⟨(some 14), none, .mov (.t 4)⟩, ⟨(some 15), none, .iad 4 (.t 13) (.t 14)⟩, ⟨(some 16), none, .load 4 true (.t 15)⟩, ⟨(some 17), none, .call 84 [(.t 16)]⟩, ⟨(some 18), none, .brow false 9 1 1 false [(.t 17)]⟩, ⟨(some 19), none, .app 9 1 (.t 12) (.t 18)⟩, ⟨(some 3), none, .mov (.t 19)⟩])) (.reg false [⟨(some 10), none, .mov (.t 4)⟩, ⟨(some 11), none, .bin .add (.t 10) (.k (.int .i64 1))⟩, ⟨(some 4), none, .mov (.t 11)⟩])))))) (.seq (.reg false [⟨(some 20), none, .mov (.t 3)⟩, ⟨(some 21), none, .call 69 [(.t 20), (.k (.string ⟨#[44, 32]⟩))]⟩, ⟨(some 2), none, .mov (.t 21)⟩]) .ret))))
theorem ic_flist_ok : compC Try.prog (Try.f89.body.getD .skip) = some ic_flist := by kernel_rfl
set_option maxRecDepth 8000 in
set_option maxHeartbeats 8000000 in
theorem flist_x (q : List GExpr) (hw : fmtBds q ≤ 100000000) (hq : q.length ≤ 1048576) (hI : ∀ e ∈ q, Said_text e) : CallsXE Try.prog 89 [.sl (q.map GExpr.toD)] (fun r os' => (∃ s : ByteArray, s.size ≤ fmtBds q + 2 * q.length ∧ r = .c false [.raw (.string s)]) ∧ os' = []) := by
  refine calls_xe (fn := Try.f89) (r := .tmp 2) (by kernel_rfl) (by kernel_rfl) (by kernel_rfl) ic_flist_ok ?_
  unfold ic_flist
  change AWP _ _ _ (st0 22 _)
  simp only [undef, stS, st0, stN, D.av, D.avN, sl_agg, leaf_agg, li_agg, ls_agg, sl_acs, leaf_acs, li_acs, ls_acs, GExpr.acs_eq, GExpr.flat_eq, GExpr.agg_eq, List.map_cons, List.map_nil, List.replicate, List.cons_append, List.nil_append, List.length_cons, List.length_nil, Nat.reduceAdd, Nat.reduceSub, Nat.reduceLeDiff, Nat.reduceEqDiff]
  repeat' (first | (with_reducible first | refine awp_seq ?_ | refine awp_block ?_ | refine awp_skip ?_ | refine awp_exit ?_ | refine awp_ret ?_ | refine athen ?_ | refine thenExit ?_ | refine thenRet ?_ | refine blockNormal ?_ | refine blockExit ?_ | refine blockRet ?_ | refine roundExit ?_ | refine roundRet ?_ | refine roundExitR ?_ | refine roundRetR ?_) | ((with_reducible refine blockPass ?_ ?_); rfl) | ((with_reducible refine awp_condT ?_ ?_); rfl) | ((with_reducible refine awp_condF ?_ ?_); rfl) | (with_reducible (refine awp_condS rfl ?_ ?_); all_goals (intro hb; have hb' := hb; (try simp only [pkC] at hb'); first | (exfalso; omega) | skip)) | ((with_reducible refine awp_reg ?_); intro K hK) | ((with_reducible refine hK _ ?_); clear hK K) | (with_reducible refine and_split ?_ ?_) | ((with_reducible refine sw_id ?_); simp (disch := first | decide | omega) only [↓pkS, pkW, pkA, pkZ, List.flatMap_cons, List.flatMap_nil, List.append_nil, linSrc, lvD, lcD, lvK, lcK, capsOf, ex, kav, gdA, opI, rawI, vbin, srcOf, AV.toD, AC.toD, AV.nw, AC.nw, AC.one, Value.oneCell', if_true, if_false, Bool.false_eq_true, fillA, D.one, D.sz, Nat.reduceAdd, Nat.reduceSub, Nat.reduceLeDiff, Nat.reduceEqDiff, reduceIte, pkN, Int.reduceLT, Int.reduceLE, li_acs, ls_acs, GExpr.acs_eq, GExpr.flat_eq, GExpr.agg_eq, AV.fl, AC.fl, AV.shift, AC.shift, List.append_nil]) | (exact GExpr.el _) | exact bndQ | exact argsQ)
  refine awp_loopB (X := Nat × Nat × List ByteArray) (fun z => [.k, .d, .d, .v (.c false [.own 0 z.2.1]), .v (.c false [.raw (.int .i64 ((z.1 : Nat)))]), .d, .d, .d, .d, .d, .d, .d, .d, .d, .d, .d, .d, .d, .d, .d, .d, .d]) (fun z => [⟨z.2.2.map ls, 9, 1, z.2.1, true⟩]) (fun _ _ => []) (fun z => z.1 ≤ q.length ∧ z.2.2.length = z.1 ∧ bsz z.2.2 ≤ fmtBds (q.take z.1)) (fun z => q.length - z.1) (0, 0, []) ⟨Nat.zero_le _, rfl, Nat.zero_le _⟩ ?_ ?_
  · simp [StLe', FrLe, OwnLe, BoxLe, AV.fits, AC.fits, FB, mask]
  · rintro ⟨k, v, l⟩ ⟨hk, hl, hz⟩
    simp only at hk hl hz
    simp only [FB, mask]
    by_cases hlt : k < q.length
    · have hT : decide ((k : Int) < (q.length : Int)) = true := decide_eq_true (by omega)
      have hw1 : IntKind.i64.wrap ((k : Int) + 1) = ((k + 1 : Nat) : Int) := wrap_nat (by omega)
      have hix := idx_map GExpr.toD q hlt
      have hI1 := hI _ (List.getElem_mem hlt)
      unfold Said_text at hI1
      have htk : q.take (k + 1) = q.take k ++ [q[k]] := List.take_succ_eq_append_getElem hlt
      repeat' (first | (with_reducible first | refine awp_seq ?_ | refine awp_block ?_ | refine awp_skip ?_ | refine awp_exit ?_ | refine awp_ret ?_ | refine athen ?_ | refine thenExit ?_ | refine thenRet ?_ | refine blockNormal ?_ | refine blockExit ?_ | refine blockRet ?_ | refine roundExit ?_ | refine roundRet ?_ | refine roundExitR ?_ | refine roundRetR ?_) | ((with_reducible refine blockPass ?_ ?_); rfl) | ((with_reducible refine awp_condT ?_ ?_); rfl) | ((with_reducible refine awp_condF ?_ ?_); rfl) | (with_reducible (refine awp_condS rfl ?_ ?_); all_goals (intro hb; have hb' := hb; (try simp only [pkC] at hb'); first | (exfalso; omega) | skip)) | ((with_reducible refine awp_reg ?_); intro K hK) | ((with_reducible refine hK _ ?_); clear hK K) | (with_reducible refine and_split ?_ ?_) | ((with_reducible refine ct_id ?_); first | (refine callX1 (h := hI1) (hK := ?_); rintro _ _ ⟨⟨s, hs, rfl⟩, rfl⟩)) | ((with_reducible refine sw_id ?_); simp (disch := first | decide | omega) only [↓pkS, pkW, pkA, pkZ, List.flatMap_cons, List.flatMap_nil, List.append_nil, linSrc, lvD, lcD, lvK, lcK, capsOf, ex, kav, gdA, opI, rawI, vbin, srcOf, AV.toD, AC.toD, AV.nw, AC.nw, AC.one, Value.oneCell', if_true, if_false, Bool.false_eq_true, fillA, D.one, D.sz, Nat.reduceAdd, Nat.reduceSub, Nat.reduceLeDiff, Nat.reduceEqDiff, reduceIte, pkN, Int.reduceLT, Int.reduceLE, li_acs, ls_acs, GExpr.acs_eq, GExpr.flat_eq, GExpr.agg_eq, AV.fl, AC.fl, AV.shift, AC.shift, List.append_nil, hT, hw1, hix, List.length_map]) | (exact GExpr.el _) | exact bndQ | exact argsQ)
      all_goals first
        | omega
        | (simp only [List.length_map]; omega)
        | (refine roundB (k + 1, v + 1, l ++ [s]) ?_ ⟨by simp only; omega, by simp [hl], by simp only; rw [bsz_app, htk, fmtBds_app]; simp only [bsz, fmtBds]; omega⟩ (show q.length - (k + 1) < q.length - k by omega)
           simp [StLe', FrLe, OwnLe, BoxLe, AV.fits, AC.fits, FB, mask, ls])
    · have hT : decide ((k : Int) < (q.length : Int)) = false := decide_eq_false (by omega)
      have hkq : q.take k = q := List.take_of_length_le (by omega)
      rw [hkq] at hz
      have hb2 := joinB_bsz l ⟨#[44, 32]⟩
      have hb3 : (⟨#[44, 32]⟩ : ByteArray).size = 2 := rfl
      rw [hb3] at hb2
      have hJ := join_spec_to l ⟨#[44, 32]⟩ (by have := joinK_bsz l ⟨#[44, 32]⟩ l.length (Nat.le_refl _); rw [List.take_length, hb3] at this; omega) (by omega)
      repeat' (first | (with_reducible first | refine awp_seq ?_ | refine awp_block ?_ | refine awp_skip ?_ | refine awp_exit ?_ | refine awp_ret ?_ | refine athen ?_ | refine thenExit ?_ | refine thenRet ?_ | refine blockNormal ?_ | refine blockExit ?_ | refine blockRet ?_ | refine roundExit ?_ | refine roundRet ?_ | refine roundExitR ?_ | refine roundRetR ?_) | ((with_reducible refine blockPass ?_ ?_); rfl) | ((with_reducible refine awp_condT ?_ ?_); rfl) | ((with_reducible refine awp_condF ?_ ?_); rfl) | (with_reducible (refine awp_condS rfl ?_ ?_); all_goals (intro hb; have hb' := hb; (try simp only [pkC] at hb'); first | (exfalso; omega) | skip)) | ((with_reducible refine awp_reg ?_); intro K hK) | ((with_reducible refine hK _ ?_); clear hK K) | (with_reducible refine and_split ?_ ?_) | ((with_reducible refine ct_id ?_); first | refine callT1 (hc := hJ) (h := ?_)) | ((with_reducible refine sw_id ?_); simp (disch := first | decide | omega) only [↓pkS, pkW, pkA, pkZ, List.flatMap_cons, List.flatMap_nil, List.append_nil, linSrc, lvD, lcD, lvK, lcK, capsOf, ex, kav, gdA, opI, rawI, vbin, srcOf, AV.toD, AC.toD, AV.nw, AC.nw, AC.one, Value.oneCell', if_true, if_false, Bool.false_eq_true, fillA, D.one, D.sz, Nat.reduceAdd, Nat.reduceSub, Nat.reduceLeDiff, Nat.reduceEqDiff, reduceIte, pkN, Int.reduceLT, Int.reduceLE, li_acs, ls_acs, GExpr.acs_eq, GExpr.flat_eq, GExpr.agg_eq, AV.fl, AC.fl, AV.shift, AC.shift, List.append_nil, hT]) | (exact GExpr.el _) | exact bndQ | exact argsQ)
      exact finX_raw rfl rfl ⟨⟨_, by omega, rfl⟩, rfl⟩
def ic_ftext : IC := (.seq (.reg false [⟨(some 1), none, .box (.t 0)⟩, ⟨(some 2), none, .mov (.k (.string ⟨#[]⟩))⟩]) (.seq (.seq (.reg false [⟨(some 5), none, .fad 0 (.t 1)⟩, ⟨(some 6), none, .load 1 false (.t 5)⟩]) (.block 0 (.seq (.reg false [⟨(some 8), none, .bin .eql (.t 6) (.k (.int .i64 1))⟩, ⟨(some 7), none, .mov (.t 8)⟩]) (.cond (.t 7) (.seq (.reg false [⟨(some 9), none, .fad 1 (.t 1)⟩, ⟨(some 10), none, .load 1 false (.t 9)⟩, ⟨(some 11), none, .call 68 [(.t 10)]⟩, ⟨(some 2), none, .mov (.t 11)⟩]) .ret) (.seq (.reg false [⟨(some 13), none, .bin .eql (.t 6) (.k (.int .i64 2))⟩, ⟨(some 12), none, .mov (.t 13)⟩]) (.cond (.t 12) (.seq (.reg false [⟨(some 14), none, .fad 2 (.t 1)⟩, ⟨(some 15), none, .load 1 false (.t 14)⟩, ⟨(some 16), none, .bin .add (.k (.string ⟨#[34]⟩)) (.t 15)⟩, ⟨(some 17), none, .bin .add (.t 16) (.k (.string ⟨#[34]⟩))⟩, ⟨(some 2), none, .mov (.t 17)⟩]) .ret) (.seq (.reg false [⟨(some 19), none, .bin .eql (.t 6) (.k (.int .i64 3))⟩, ⟨(some 18), none, .mov (.t 19)⟩]) (.cond (.t 18) (.seq (.reg false [⟨(some 20), none, .fad 2 (.t 1)⟩, ⟨(some 21), none, .load 1 false (.t 20)⟩, ⟨(some 2), none, .mov (.t 21)⟩]) .ret) (.seq (.reg false [⟨(some 23), none, .bin .eql (.t 6) (.k (.int .i64 4))⟩, ⟨(some 22), none, .mov (.t 23)⟩]) (.cond (.t 22) (.seq (.reg false [⟨(some 24), none, .fad 3 (.t 1)⟩, ⟨(some 25), none, .load 1 false (.t 24)⟩, ⟨(some 26), none, .call 89 [(.t 25)]⟩, ⟨(some 27), none, .bin .add (.k (.string ⟨#[91]⟩)) (.t 26)⟩, ⟨(some 28), none, .bin .add (.t 27) (.k (.string ⟨#[93]⟩))⟩, ⟨(some 2), none, .mov (.t 28)⟩]) .ret) (.seq (.reg false [⟨(some 30), none, .bin .eql (.t 6) (.k (.int .i64 5))⟩, ⟨(some 29), none, .mov (.t 30)⟩]) (.cond (.t 29) (.seq (.regN true [] [⟨(some 31), none, .fad 2 (.t 1)⟩, ⟨(some 32), none, .load 1 false (.t 31)⟩, ⟨(some 33), none, .bin .add (.t 32) (.k (.string ⟨#[40]⟩))⟩, ⟨(some 34), none, .fad 3 (.t 1)⟩, ⟨(some 35), none, .load 1 false (.t 34)⟩, ⟨(some 36), none, .call 89 [(.t 35)]⟩, ⟨(some 37), none, .bin .add (.t 33) (.t 36)⟩, ⟨(some 38), none, .bin .add (.t 37) (.k (.string ⟨#[41]⟩))⟩, ⟨(some 2), none, .mov (.t 38)⟩]) .ret) (.seq (.reg false [⟨(some 40), none, .bin .eql (.t 6) (.k (.int .i64 7))⟩, ⟨(some 39), none, .mov (.t 40)⟩]) (.cond (.t 39) (.seq (.regN true [] [⟨(some 41), none, .fad 2 (.t 1)⟩, ⟨(some 42), none, .load 1 false (.t 41)⟩, ⟨(some 43), none, .bin .add (.k (.string ⟨#[108, 101, 116, 32]⟩)) (.t 42)⟩, ⟨(some 44), none, .bin .add (.t 43) (.k (.string ⟨#[32, 61, 32]⟩))⟩, ⟨(some 45), none, .fad 3 (.t 1)⟩, ⟨(some 46), none, .load 1 false (.t 45)⟩, ⟨(some 47), none, .iad 4 (.t 46) (.k (.int .i64 0))⟩, ⟨(some 48), none, .load 4 true (.t 47)⟩, ⟨(some 49), none, .call 84 [(.t 48)]⟩, ⟨(some 50), none, .bin .add (.t 44) (.t 49)⟩, ⟨(some 51), none, .bin .add (.t 50) (.k (.string ⟨#[32, 105, 110, 32]⟩))⟩, ⟨(some 52), none, .fad 3 (.t 1)⟩, ⟨(some 53), none, .load 1 false (.t 52)⟩, ⟨(some 54), none, .iad 4 (.t 53) (.k (.int .i64 1))⟩, ⟨(some 55), none, .load 4 true (.t 54)⟩, ⟨(some 56), none, .call 84 [(.t 55)]⟩, ⟨(some 57), none, .bin .add (.t 51) (.t 56)⟩, ⟨(some 2), none, .mov (.t 57)⟩]) .ret) (.seq (.reg false [⟨(some 59), none, .bin .eql (.t 6) (.k (.int .i64 9))⟩, ⟨(some 58), none, .mov (.t 59)⟩]) (.cond (.t 58) (.seq (.regN true [] [⟨(some 60), none, .fad 2 (.t 1)⟩, ⟨(some 61), none, .load 1 false (.t 60)⟩, ⟨(some 62), none, .bin .add (.k (.string ⟨#[102, 111, 114, 32]⟩)) (.t 61)⟩, ⟨(some 63), none, .bin .add (.t 62) (.k (.string ⟨#[32, 105, 110, 32]⟩))⟩, ⟨(some 64), none, .fad 3 (.t 1)⟩, ⟨(some 65), none, .load 1 false (.t 64)⟩, ⟨(some 66), none, .iad 4 (.t 65) (.k (.int .i64 0))⟩, ⟨(some 67), none, .load 4 true (.t 66)⟩, ⟨(some 68), none, .call 84 [(.t 67)]⟩, ⟨(some 69), none, .bin .add (.t 63) (.t 68)⟩, ⟨(some 70), none, .bin .add (.t 69) (.k (.string ⟨#[32, 100, 111, 32]⟩))⟩, ⟨(some 71), none, .fad 3 (.t 1)⟩, ⟨(some 72), none, .load 1 false (.t 71)⟩, ⟨(some 73), none, .iad 4 (.t 72) (.k (.int .i64 1))⟩, ⟨(some 74), none, .load 4 true (.t 73)⟩, ⟨(some 75), none, .call 84 [(.t 74)]⟩, ⟨(some 76), none, .bin .add (.t 70) (.t 75)⟩, ⟨(some 2), none, .mov (.t 76)⟩]) .ret) (.seq (.reg false [⟨(some 78), none, .bin .eql (.t 6) (.k (.int .i64 8))⟩, ⟨(some 77), none, .mov (.t 78)⟩]) (.cond (.t 77) (.seq (.regN true [] [⟨(some 79), none, .fad 3 (.t 1)⟩, ⟨(some 80), none, .load 1 false (.t 79)⟩, ⟨(some 81), none, .iad 4 (.t 80) (.k (.int .i64 0))⟩, ⟨(some 82), none, .load 4 true (.t 81)⟩, ⟨(some 83), none, .call 84 [(.t 82)]⟩, ⟨(some 84), none, .bin .add (.k (.string ⟨#[105, 102, 32]⟩)) (.t 83)⟩, ⟨(some 85), none, .bin .add (.t 84) (.k (.string ⟨#[32, 116, 104, 101, 110, 32]⟩))⟩, ⟨(some 86), none, .fad 3 (.t 1)⟩, ⟨(some 87), none, .load 1 false (.t 86)⟩, ⟨(some 88), none, .iad 4 (.t 87) (.k (.int .i64 1))⟩, ⟨(some 89), none, .load 4 true (.t 88)⟩, ⟨(some 90), none, .call 84 [(.t 89)]⟩, ⟨(some 91), none, .bin .add (.t 85) (.t 90)⟩, ⟨(some 92), none, .bin .add (.t 91) (.k (.string ⟨#[32, 101, 108, 115, 101, 32]⟩))⟩, ⟨(some 93), none, .fad 3 (.t 1)⟩, ⟨(some 94), none, .load 1 false (.t 93)⟩, ⟨(some 95), none, .iad 4 (.t 94) (.k (.int .i64 2))⟩, ⟨(some 96), none, .load 4 true (.t 95)⟩, ⟨(some 97), none, .call 84 [(.t 96)]⟩, ⟨(some 98), none, .bin .add (.t 92) (.t 97)⟩, ⟨(some 2), none, .mov (.t 98)⟩]) .ret) .skip)))))))))))))))))) (.seq (.reg false [⟨(some 99), none, .load 4 true (.t 1)⟩, ⟨(some 100), none, .call 90 [(.t 99)]⟩, ⟨(some 3), none, .mov (.t 100)⟩]) (.seq (.reg false [⟨(some 101), none, .mov (.t 3)⟩, ⟨(some 4), none, .mov (.t 101)⟩]) (.seq (.seq (.reg false [⟨(some 102), none, .mov (.t 3)⟩, ⟨(some 103), none, .bin .eql (.t 102) (.k (.int .i64 1))⟩]) (.cond (.t 103) (.reg false [⟨(some 4), none, .mov (.k (.int .i64 2))⟩]) .skip)) (.seq (.regN true [] [⟨(some 104), none, .fad 3 (.t 1)⟩, ⟨(some 105), none, .load 1 false (.t 104)⟩, ⟨(some 106), none, .iad 4 (.t 105) (.k (.int .i64 0))⟩, ⟨(some 107), none, .load 4 true (.t 106)⟩, ⟨(some 108), none, .mov (.t 4)⟩, ⟨(some 109), none, .call 91 [(.t 107), (.t 108)]⟩, ⟨(some 110), none, .bin .add (.t 109) (.k (.string ⟨#[32]⟩))⟩, ⟨(some 111), none, .fad 1 (.t 1)⟩, ⟨(some 112), none, .load 1 false (.t 111)⟩, ⟨(some 113), none, .call 92 [(.t 112)]⟩, ⟨(some 114), none, .bin .add (.t 110) (.t 113)⟩, ⟨(some 115), none, .bin .add (.t 114) (.k (.string ⟨#[32]⟩))⟩, ⟨(some 116), none, .fad 3 (.t 1)⟩, ⟨(some 117), none, .load 1 false (.t 116)⟩, ⟨(some 118), none, .iad 4 (.t 117) (.k (.int .i64 1))⟩, ⟨(some 119), none, .load 4 true (.t 118)⟩, ⟨(some 120), none, .mov (.t 3)⟩, ⟨(some 121), none, .bin .add (.t 120) (.k (.int .i64 1))⟩, ⟨(some 122), none, .call 91 [(.t 119), (.t 121)]⟩, ⟨(some 123), none, .bin .add (.t 115) (.t 122)⟩, ⟨(some 2), none, .mov (.t 123)⟩]) .ret))))))
theorem ic_ftext_ok : compC Try.prog (Try.f84.body.getD .skip) = some ic_ftext := by kernel_rfl
set_option maxRecDepth 8000 in
set_option maxHeartbeats 16000000 in
theorem ftext_x (e : GExpr) (hw : e.toD.wt ≤ 1000000) (hn : nodeB e = true) (hI : ∀ y ∈ e.args, Said_text y) : CallsXE Try.prog 84 [e.toD] (fun r os' => (∃ s : ByteArray, s.size ≤ fmtBd e ∧ r = .c false [.raw (.string s)]) ∧ os' = []) := by
  refine calls_xe (fn := Try.f84) (r := .tmp 2) (by kernel_rfl) (by kernel_rfl) (by kernel_rfl) ic_ftext_ok ?_
  unfold ic_ftext
  change AWP _ _ _ (st0 124 _)
  simp only [undef, stS, st0, stN, D.av, D.avN, sl_agg, leaf_agg, li_agg, ls_agg, sl_acs, leaf_acs, li_acs, ls_acs, GExpr.acs_eq, GExpr.flat_eq, GExpr.agg_eq, List.map_cons, List.map_nil, List.replicate, List.cons_append, List.nil_append, List.length_cons, List.length_nil, Nat.reduceAdd, Nat.reduceSub, Nat.reduceLeDiff, Nat.reduceEqDiff]
  have hb := fmtBd_eq e
  have hlen := wtE_len e
  have hbs : fmtBds e.args ≤ fmtBd e := by omega
  have hbd : fmtBd e ≤ 100000000 := by unfold fmtBd; omega
  have cl := flist_x e.args (by omega) (by omega) hI
  have cs := level_x e
  unfold Said_text at hI
  have kk : ∀ j : Int, (e.kind == j) = decide (e.kind = j) := fun j => by by_cases h : e.kind = j <;> simp [h]
  rcases nodeB_kind hn with ⟨k, n0, n1⟩ | k | k | k | k | ⟨k, ha, n0, n1⟩ | ⟨k, ha⟩ | ⟨k, ha⟩ | ⟨k, ha⟩
  · have f1 : (e.kind == 1) = true := by rw [kk]; exact decide_eq_true (by omega)
    have f2 : (e.kind == 2) = false := by rw [kk]; exact decide_eq_false (by omega)
    have f3 : (e.kind == 3) = false := by rw [kk]; exact decide_eq_false (by omega)
    have f4 : (e.kind == 4) = false := by rw [kk]; exact decide_eq_false (by omega)
    have f5 : (e.kind == 5) = false := by rw [kk]; exact decide_eq_false (by omega)
    have f6 : (e.kind == 6) = false := by rw [kk]; exact decide_eq_false (by omega)
    have f7 : (e.kind == 7) = false := by rw [kk]; exact decide_eq_false (by omega)
    have f8 : (e.kind == 8) = false := by rw [kk]; exact decide_eq_false (by omega)
    have f9 : (e.kind == 9) = false := by rw [kk]; exact decide_eq_false (by omega)
    have c1 := formatInt_spec_to (n := e.n) (by omega) (by omega)
    have hfl := fmtI_len (n := e.n) (by omega) (by omega)
    repeat' (first | (with_reducible first | refine awp_seq ?_ | refine awp_block ?_ | refine awp_skip ?_ | refine awp_exit ?_ | refine awp_ret ?_ | refine athen ?_ | refine thenExit ?_ | refine thenRet ?_ | refine blockNormal ?_ | refine blockExit ?_ | refine blockRet ?_ | refine roundExit ?_ | refine roundRet ?_ | refine roundExitR ?_ | refine roundRetR ?_) | ((with_reducible refine blockPass ?_ ?_); rfl) | ((with_reducible refine awp_condT ?_ ?_); rfl) | ((with_reducible refine awp_condF ?_ ?_); rfl) | (with_reducible (refine awp_condS rfl ?_ ?_); all_goals (intro hb; have hb' := hb; (try simp only [pkC] at hb'); first | (exfalso; omega) | skip)) | ((with_reducible refine awp_reg ?_); intro K hK) | ((first | ((with_reducible refine awp_regD false ?_ ?_); rfl) | ((with_reducible refine awp_regD true ?_ ?_); rfl)); intro K hK) | ((first | ((with_reducible refine awp_regND false ?_ ?_); rfl) | ((with_reducible refine awp_regND true ?_ ?_); rfl)); intro K hK) | ((with_reducible refine hK _ ?_); clear hK K) | (with_reducible refine and_split ?_ ?_) | ((with_reducible refine ct_id ?_); first | refine callT1 (hc := c1) (h := ?_)) | ((with_reducible refine sw_id ?_); simp (disch := first | decide | omega) only [↓pkS, pkW, pkA, pkZ, List.flatMap_cons, List.flatMap_nil, List.append_nil, linSrc, lvD, lcD, lvK, lcK, capsOf, ex, kav, gdA, opI, rawI, vbin, srcOf, AV.toD, AC.toD, AV.nw, AC.nw, AC.one, Value.oneCell', if_true, if_false, Bool.false_eq_true, fillA, D.one, D.sz, Nat.reduceAdd, Nat.reduceSub, Nat.reduceLeDiff, Nat.reduceEqDiff, reduceIte, pkN, Int.reduceLT, Int.reduceLE, li_acs, ls_acs, GExpr.acs_eq, GExpr.flat_eq, GExpr.agg_eq, AV.fl, AC.fl, AV.shift, AC.shift, List.append_nil, f1, f2, f3, f4, f5, f6, f7, f8, f9, catfN, catfI, ByteArray.size_append, szD, List.size_toArray, List.length_cons, List.length_nil, Nat.reduceAdd]) | ((with_reducible refine sd_id ?_); simp (disch := first | decide | omega) only [↓pkR, pkD, pkA, pkZ, List.flatMap_cons, List.flatMap_nil, List.append_nil, linSrc, lvD, lcD, lvK, lcK, capsOf, ex, kav, gdA, opI, rawI, vbin, srcOf, AV.toD, AC.toD, AV.nw, AC.nw, AC.one, Value.oneCell', if_true, if_false, Bool.false_eq_true, fillA, D.one, D.sz, Nat.reduceAdd, Nat.reduceSub, Nat.reduceLeDiff, Nat.reduceEqDiff, reduceIte, pkN, Int.reduceLT, Int.reduceLE, li_acs, ls_acs, GExpr.acs_eq, GExpr.flat_eq, GExpr.agg_eq, AV.fl, AC.fl, AV.shift, AC.shift, List.append_nil, f1, f2, f3, f4, f5, f6, f7, f8, f9, catfN, catfI, ByteArray.size_append, szD, List.size_toArray, List.length_cons, List.length_nil, Nat.reduceAdd]) | (exact GExpr.el _) | exact bndQ | exact argsQ)
    all_goals first
      | omega
      | (simp only [ByteArray.size_append, szD, List.size_toArray, List.length_cons, List.length_nil]; omega)
      | (exact finX_raw rfl rfl ⟨⟨_, by first | omega | (simp only [ByteArray.size_append, szD, List.size_toArray, List.length_cons, List.length_nil]; omega), rfl⟩, rfl⟩)
  · have f1 : (e.kind == 1) = false := by rw [kk]; exact decide_eq_false (by omega)
    have f2 : (e.kind == 2) = true := by rw [kk]; exact decide_eq_true (by omega)
    have f3 : (e.kind == 3) = false := by rw [kk]; exact decide_eq_false (by omega)
    have f4 : (e.kind == 4) = false := by rw [kk]; exact decide_eq_false (by omega)
    have f5 : (e.kind == 5) = false := by rw [kk]; exact decide_eq_false (by omega)
    have f6 : (e.kind == 6) = false := by rw [kk]; exact decide_eq_false (by omega)
    have f7 : (e.kind == 7) = false := by rw [kk]; exact decide_eq_false (by omega)
    have f8 : (e.kind == 8) = false := by rw [kk]; exact decide_eq_false (by omega)
    have f9 : (e.kind == 9) = false := by rw [kk]; exact decide_eq_false (by omega)
    repeat' (first | (with_reducible first | refine awp_seq ?_ | refine awp_block ?_ | refine awp_skip ?_ | refine awp_exit ?_ | refine awp_ret ?_ | refine athen ?_ | refine thenExit ?_ | refine thenRet ?_ | refine blockNormal ?_ | refine blockExit ?_ | refine blockRet ?_ | refine roundExit ?_ | refine roundRet ?_ | refine roundExitR ?_ | refine roundRetR ?_) | ((with_reducible refine blockPass ?_ ?_); rfl) | ((with_reducible refine awp_condT ?_ ?_); rfl) | ((with_reducible refine awp_condF ?_ ?_); rfl) | (with_reducible (refine awp_condS rfl ?_ ?_); all_goals (intro hb; have hb' := hb; (try simp only [pkC] at hb'); first | (exfalso; omega) | skip)) | ((with_reducible refine awp_reg ?_); intro K hK) | ((first | ((with_reducible refine awp_regD false ?_ ?_); rfl) | ((with_reducible refine awp_regD true ?_ ?_); rfl)); intro K hK) | ((first | ((with_reducible refine awp_regND false ?_ ?_); rfl) | ((with_reducible refine awp_regND true ?_ ?_); rfl)); intro K hK) | ((with_reducible refine hK _ ?_); clear hK K) | (with_reducible refine and_split ?_ ?_) | ((with_reducible refine sw_id ?_); simp (disch := first | decide | omega) only [↓pkS, pkW, pkA, pkZ, List.flatMap_cons, List.flatMap_nil, List.append_nil, linSrc, lvD, lcD, lvK, lcK, capsOf, ex, kav, gdA, opI, rawI, vbin, srcOf, AV.toD, AC.toD, AV.nw, AC.nw, AC.one, Value.oneCell', if_true, if_false, Bool.false_eq_true, fillA, D.one, D.sz, Nat.reduceAdd, Nat.reduceSub, Nat.reduceLeDiff, Nat.reduceEqDiff, reduceIte, pkN, Int.reduceLT, Int.reduceLE, li_acs, ls_acs, GExpr.acs_eq, GExpr.flat_eq, GExpr.agg_eq, AV.fl, AC.fl, AV.shift, AC.shift, List.append_nil, f1, f2, f3, f4, f5, f6, f7, f8, f9, catfN, catfI, ByteArray.size_append, szD, List.size_toArray, List.length_cons, List.length_nil, Nat.reduceAdd]) | ((with_reducible refine sd_id ?_); simp (disch := first | decide | omega) only [↓pkR, pkD, pkA, pkZ, List.flatMap_cons, List.flatMap_nil, List.append_nil, linSrc, lvD, lcD, lvK, lcK, capsOf, ex, kav, gdA, opI, rawI, vbin, srcOf, AV.toD, AC.toD, AV.nw, AC.nw, AC.one, Value.oneCell', if_true, if_false, Bool.false_eq_true, fillA, D.one, D.sz, Nat.reduceAdd, Nat.reduceSub, Nat.reduceLeDiff, Nat.reduceEqDiff, reduceIte, pkN, Int.reduceLT, Int.reduceLE, li_acs, ls_acs, GExpr.acs_eq, GExpr.flat_eq, GExpr.agg_eq, AV.fl, AC.fl, AV.shift, AC.shift, List.append_nil, f1, f2, f3, f4, f5, f6, f7, f8, f9, catfN, catfI, ByteArray.size_append, szD, List.size_toArray, List.length_cons, List.length_nil, Nat.reduceAdd]) | (exact GExpr.el _) | exact bndQ | exact argsQ)
    all_goals first
      | omega
      | (simp only [ByteArray.size_append, szD, List.size_toArray, List.length_cons, List.length_nil]; omega)
      | (exact finX_raw rfl rfl ⟨⟨_, by first | omega | (simp only [ByteArray.size_append, szD, List.size_toArray, List.length_cons, List.length_nil]; omega), rfl⟩, rfl⟩)
  · have f1 : (e.kind == 1) = false := by rw [kk]; exact decide_eq_false (by omega)
    have f2 : (e.kind == 2) = false := by rw [kk]; exact decide_eq_false (by omega)
    have f3 : (e.kind == 3) = true := by rw [kk]; exact decide_eq_true (by omega)
    have f4 : (e.kind == 4) = false := by rw [kk]; exact decide_eq_false (by omega)
    have f5 : (e.kind == 5) = false := by rw [kk]; exact decide_eq_false (by omega)
    have f6 : (e.kind == 6) = false := by rw [kk]; exact decide_eq_false (by omega)
    have f7 : (e.kind == 7) = false := by rw [kk]; exact decide_eq_false (by omega)
    have f8 : (e.kind == 8) = false := by rw [kk]; exact decide_eq_false (by omega)
    have f9 : (e.kind == 9) = false := by rw [kk]; exact decide_eq_false (by omega)
    repeat' (first | (with_reducible first | refine awp_seq ?_ | refine awp_block ?_ | refine awp_skip ?_ | refine awp_exit ?_ | refine awp_ret ?_ | refine athen ?_ | refine thenExit ?_ | refine thenRet ?_ | refine blockNormal ?_ | refine blockExit ?_ | refine blockRet ?_ | refine roundExit ?_ | refine roundRet ?_ | refine roundExitR ?_ | refine roundRetR ?_) | ((with_reducible refine blockPass ?_ ?_); rfl) | ((with_reducible refine awp_condT ?_ ?_); rfl) | ((with_reducible refine awp_condF ?_ ?_); rfl) | (with_reducible (refine awp_condS rfl ?_ ?_); all_goals (intro hb; have hb' := hb; (try simp only [pkC] at hb'); first | (exfalso; omega) | skip)) | ((with_reducible refine awp_reg ?_); intro K hK) | ((first | ((with_reducible refine awp_regD false ?_ ?_); rfl) | ((with_reducible refine awp_regD true ?_ ?_); rfl)); intro K hK) | ((first | ((with_reducible refine awp_regND false ?_ ?_); rfl) | ((with_reducible refine awp_regND true ?_ ?_); rfl)); intro K hK) | ((with_reducible refine hK _ ?_); clear hK K) | (with_reducible refine and_split ?_ ?_) | ((with_reducible refine sw_id ?_); simp (disch := first | decide | omega) only [↓pkS, pkW, pkA, pkZ, List.flatMap_cons, List.flatMap_nil, List.append_nil, linSrc, lvD, lcD, lvK, lcK, capsOf, ex, kav, gdA, opI, rawI, vbin, srcOf, AV.toD, AC.toD, AV.nw, AC.nw, AC.one, Value.oneCell', if_true, if_false, Bool.false_eq_true, fillA, D.one, D.sz, Nat.reduceAdd, Nat.reduceSub, Nat.reduceLeDiff, Nat.reduceEqDiff, reduceIte, pkN, Int.reduceLT, Int.reduceLE, li_acs, ls_acs, GExpr.acs_eq, GExpr.flat_eq, GExpr.agg_eq, AV.fl, AC.fl, AV.shift, AC.shift, List.append_nil, f1, f2, f3, f4, f5, f6, f7, f8, f9, catfN, catfI, ByteArray.size_append, szD, List.size_toArray, List.length_cons, List.length_nil, Nat.reduceAdd]) | ((with_reducible refine sd_id ?_); simp (disch := first | decide | omega) only [↓pkR, pkD, pkA, pkZ, List.flatMap_cons, List.flatMap_nil, List.append_nil, linSrc, lvD, lcD, lvK, lcK, capsOf, ex, kav, gdA, opI, rawI, vbin, srcOf, AV.toD, AC.toD, AV.nw, AC.nw, AC.one, Value.oneCell', if_true, if_false, Bool.false_eq_true, fillA, D.one, D.sz, Nat.reduceAdd, Nat.reduceSub, Nat.reduceLeDiff, Nat.reduceEqDiff, reduceIte, pkN, Int.reduceLT, Int.reduceLE, li_acs, ls_acs, GExpr.acs_eq, GExpr.flat_eq, GExpr.agg_eq, AV.fl, AC.fl, AV.shift, AC.shift, List.append_nil, f1, f2, f3, f4, f5, f6, f7, f8, f9, catfN, catfI, ByteArray.size_append, szD, List.size_toArray, List.length_cons, List.length_nil, Nat.reduceAdd]) | (exact GExpr.el _) | exact bndQ | exact argsQ)
    all_goals first
      | omega
      | (simp only [ByteArray.size_append, szD, List.size_toArray, List.length_cons, List.length_nil]; omega)
      | (exact finX_raw rfl rfl ⟨⟨_, by first | omega | (simp only [ByteArray.size_append, szD, List.size_toArray, List.length_cons, List.length_nil]; omega), rfl⟩, rfl⟩)
  · have f1 : (e.kind == 1) = false := by rw [kk]; exact decide_eq_false (by omega)
    have f2 : (e.kind == 2) = false := by rw [kk]; exact decide_eq_false (by omega)
    have f3 : (e.kind == 3) = false := by rw [kk]; exact decide_eq_false (by omega)
    have f4 : (e.kind == 4) = true := by rw [kk]; exact decide_eq_true (by omega)
    have f5 : (e.kind == 5) = false := by rw [kk]; exact decide_eq_false (by omega)
    have f6 : (e.kind == 6) = false := by rw [kk]; exact decide_eq_false (by omega)
    have f7 : (e.kind == 7) = false := by rw [kk]; exact decide_eq_false (by omega)
    have f8 : (e.kind == 8) = false := by rw [kk]; exact decide_eq_false (by omega)
    have f9 : (e.kind == 9) = false := by rw [kk]; exact decide_eq_false (by omega)
    repeat' (first | (with_reducible first | refine awp_seq ?_ | refine awp_block ?_ | refine awp_skip ?_ | refine awp_exit ?_ | refine awp_ret ?_ | refine athen ?_ | refine thenExit ?_ | refine thenRet ?_ | refine blockNormal ?_ | refine blockExit ?_ | refine blockRet ?_ | refine roundExit ?_ | refine roundRet ?_ | refine roundExitR ?_ | refine roundRetR ?_) | ((with_reducible refine blockPass ?_ ?_); rfl) | ((with_reducible refine awp_condT ?_ ?_); rfl) | ((with_reducible refine awp_condF ?_ ?_); rfl) | (with_reducible (refine awp_condS rfl ?_ ?_); all_goals (intro hb; have hb' := hb; (try simp only [pkC] at hb'); first | (exfalso; omega) | skip)) | ((with_reducible refine awp_reg ?_); intro K hK) | ((first | ((with_reducible refine awp_regD false ?_ ?_); rfl) | ((with_reducible refine awp_regD true ?_ ?_); rfl)); intro K hK) | ((first | ((with_reducible refine awp_regND false ?_ ?_); rfl) | ((with_reducible refine awp_regND true ?_ ?_); rfl)); intro K hK) | ((with_reducible refine hK _ ?_); clear hK K) | (with_reducible refine and_split ?_ ?_) | ((with_reducible refine ct_id ?_); first | (refine callX1 (h := cl) (hK := ?_); rintro _ _ ⟨⟨ll, hll, rfl⟩, rfl⟩)) | ((with_reducible refine sw_id ?_); simp (disch := first | decide | omega) only [↓pkS, pkW, pkA, pkZ, List.flatMap_cons, List.flatMap_nil, List.append_nil, linSrc, lvD, lcD, lvK, lcK, capsOf, ex, kav, gdA, opI, rawI, vbin, srcOf, AV.toD, AC.toD, AV.nw, AC.nw, AC.one, Value.oneCell', if_true, if_false, Bool.false_eq_true, fillA, D.one, D.sz, Nat.reduceAdd, Nat.reduceSub, Nat.reduceLeDiff, Nat.reduceEqDiff, reduceIte, pkN, Int.reduceLT, Int.reduceLE, li_acs, ls_acs, GExpr.acs_eq, GExpr.flat_eq, GExpr.agg_eq, AV.fl, AC.fl, AV.shift, AC.shift, List.append_nil, f1, f2, f3, f4, f5, f6, f7, f8, f9, catfN, catfI, ByteArray.size_append, szD, List.size_toArray, List.length_cons, List.length_nil, Nat.reduceAdd]) | ((with_reducible refine sd_id ?_); simp (disch := first | decide | omega) only [↓pkR, pkD, pkA, pkZ, List.flatMap_cons, List.flatMap_nil, List.append_nil, linSrc, lvD, lcD, lvK, lcK, capsOf, ex, kav, gdA, opI, rawI, vbin, srcOf, AV.toD, AC.toD, AV.nw, AC.nw, AC.one, Value.oneCell', if_true, if_false, Bool.false_eq_true, fillA, D.one, D.sz, Nat.reduceAdd, Nat.reduceSub, Nat.reduceLeDiff, Nat.reduceEqDiff, reduceIte, pkN, Int.reduceLT, Int.reduceLE, li_acs, ls_acs, GExpr.acs_eq, GExpr.flat_eq, GExpr.agg_eq, AV.fl, AC.fl, AV.shift, AC.shift, List.append_nil, f1, f2, f3, f4, f5, f6, f7, f8, f9, catfN, catfI, ByteArray.size_append, szD, List.size_toArray, List.length_cons, List.length_nil, Nat.reduceAdd]) | (exact GExpr.el _) | exact bndQ | exact argsQ)
    all_goals first
      | omega
      | (simp only [ByteArray.size_append, szD, List.size_toArray, List.length_cons, List.length_nil]; omega)
      | (exact finX_raw rfl rfl ⟨⟨_, by first | omega | (simp only [ByteArray.size_append, szD, List.size_toArray, List.length_cons, List.length_nil]; omega), rfl⟩, rfl⟩)
  · have f1 : (e.kind == 1) = false := by rw [kk]; exact decide_eq_false (by omega)
    have f2 : (e.kind == 2) = false := by rw [kk]; exact decide_eq_false (by omega)
    have f3 : (e.kind == 3) = false := by rw [kk]; exact decide_eq_false (by omega)
    have f4 : (e.kind == 4) = false := by rw [kk]; exact decide_eq_false (by omega)
    have f5 : (e.kind == 5) = true := by rw [kk]; exact decide_eq_true (by omega)
    have f6 : (e.kind == 6) = false := by rw [kk]; exact decide_eq_false (by omega)
    have f7 : (e.kind == 7) = false := by rw [kk]; exact decide_eq_false (by omega)
    have f8 : (e.kind == 8) = false := by rw [kk]; exact decide_eq_false (by omega)
    have f9 : (e.kind == 9) = false := by rw [kk]; exact decide_eq_false (by omega)
    repeat' (first | (with_reducible first | refine awp_seq ?_ | refine awp_block ?_ | refine awp_skip ?_ | refine awp_exit ?_ | refine awp_ret ?_ | refine athen ?_ | refine thenExit ?_ | refine thenRet ?_ | refine blockNormal ?_ | refine blockExit ?_ | refine blockRet ?_ | refine roundExit ?_ | refine roundRet ?_ | refine roundExitR ?_ | refine roundRetR ?_) | ((with_reducible refine blockPass ?_ ?_); rfl) | ((with_reducible refine awp_condT ?_ ?_); rfl) | ((with_reducible refine awp_condF ?_ ?_); rfl) | (with_reducible (refine awp_condS rfl ?_ ?_); all_goals (intro hb; have hb' := hb; (try simp only [pkC] at hb'); first | (exfalso; omega) | skip)) | ((with_reducible refine awp_reg ?_); intro K hK) | ((first | ((with_reducible refine awp_regD false ?_ ?_); rfl) | ((with_reducible refine awp_regD true ?_ ?_); rfl)); intro K hK) | ((first | (with_reducible refine awp_regN 99 false dist_nil ?_) | (refine awp_regN 99 false (by simp [DistT, St.ev]) ?_)); intro K hK) | ((with_reducible refine sn_load ?_ ?_); (intro off; simp only [↓pkR, St.ev, List.getD_cons_zero, List.getD_cons_succ]; first | done | (intro hx; cases hx) | (simp; done))) | ((with_reducible refine sn_look ?_ ?_); rfl) | ((with_reducible refine sn_heavy ?_ ?_); rfl) | (with_reducible refine sn_done ?_) | ((with_reducible refine hK _ ?_); clear hK K) | (with_reducible refine and_split ?_ ?_) | ((with_reducible refine ct_id ?_); first | (refine callX1 (h := cl) (hK := ?_); rintro _ _ ⟨⟨ll, hll, rfl⟩, rfl⟩)) | ((with_reducible refine sn_cid ?_); first | (refine snX1 (h := cl) (hne := ⟨_, [], ⟨⟨⟨#[]⟩, Nat.zero_le _, rfl⟩, rfl⟩, rfl⟩) (hr := ?_); rintro _ _ ⟨⟨ll, hll, rfl⟩, rfl⟩)) | ((with_reducible refine sw_id ?_); simp (disch := first | decide | omega) only [↓pkS, pkW, pkA, pkZ, List.flatMap_cons, List.flatMap_nil, List.append_nil, linSrc, lvD, lcD, lvK, lcK, capsOf, ex, kav, gdA, opI, rawI, vbin, srcOf, AV.toD, AC.toD, AV.nw, AC.nw, AC.one, Value.oneCell', if_true, if_false, Bool.false_eq_true, fillA, D.one, D.sz, Nat.reduceAdd, Nat.reduceSub, Nat.reduceLeDiff, Nat.reduceEqDiff, reduceIte, pkN, Int.reduceLT, Int.reduceLE, li_acs, ls_acs, GExpr.acs_eq, GExpr.flat_eq, GExpr.agg_eq, AV.fl, AC.fl, AV.shift, AC.shift, List.append_nil, f1, f2, f3, f4, f5, f6, f7, f8, f9, catfN, catfI, ByteArray.size_append, szD, List.size_toArray, List.length_cons, List.length_nil, Nat.reduceAdd]) | ((with_reducible refine sd_id ?_); simp (disch := first | decide | omega) only [↓pkR, pkD, pkA, pkZ, List.flatMap_cons, List.flatMap_nil, List.append_nil, linSrc, lvD, lcD, lvK, lcK, capsOf, ex, kav, gdA, opI, rawI, vbin, srcOf, AV.toD, AC.toD, AV.nw, AC.nw, AC.one, Value.oneCell', if_true, if_false, Bool.false_eq_true, fillA, D.one, D.sz, Nat.reduceAdd, Nat.reduceSub, Nat.reduceLeDiff, Nat.reduceEqDiff, reduceIte, pkN, Int.reduceLT, Int.reduceLE, li_acs, ls_acs, GExpr.acs_eq, GExpr.flat_eq, GExpr.agg_eq, AV.fl, AC.fl, AV.shift, AC.shift, List.append_nil, f1, f2, f3, f4, f5, f6, f7, f8, f9, catfN, catfI, ByteArray.size_append, szD, List.size_toArray, List.length_cons, List.length_nil, Nat.reduceAdd]) | (exact GExpr.el _) | exact bndQ | exact argsQ)
    all_goals first
      | omega
      | (simp only [ByteArray.size_append, szD, List.size_toArray, List.length_cons, List.length_nil]; omega)
      | (exact finX_raw rfl rfl ⟨⟨_, by first | omega | (simp only [ByteArray.size_append, szD, List.size_toArray, List.length_cons, List.length_nil]; omega), rfl⟩, rfl⟩)
  · have f1 : (e.kind == 1) = false := by rw [kk]; exact decide_eq_false (by omega)
    have f2 : (e.kind == 2) = false := by rw [kk]; exact decide_eq_false (by omega)
    have f3 : (e.kind == 3) = false := by rw [kk]; exact decide_eq_false (by omega)
    have f4 : (e.kind == 4) = false := by rw [kk]; exact decide_eq_false (by omega)
    have f5 : (e.kind == 5) = false := by rw [kk]; exact decide_eq_false (by omega)
    have f6 : (e.kind == 6) = true := by rw [kk]; exact decide_eq_true (by omega)
    have f7 : (e.kind == 7) = false := by rw [kk]; exact decide_eq_false (by omega)
    have f8 : (e.kind == 8) = false := by rw [kk]; exact decide_eq_false (by omega)
    have f9 : (e.kind == 9) = false := by rw [kk]; exact decide_eq_false (by omega)
    have h0 : 0 < e.args.length := by omega
    have h1 : 1 < e.args.length := by omega
    have i0 : idx (e.args.map GExpr.toD) (some 0) = some (e.args[0]).toD := idx_map GExpr.toD e.args h0
    have i1 : idx (e.args.map GExpr.toD) (some 1) = some (e.args[1]).toD := idx_map GExpr.toD e.args h1
    have hx0 := hI _ (List.getElem_mem h0)
    have hx1 := hI _ (List.getElem_mem h1)
    have hsum : fmtBd e.args[0] + fmtBd e.args[1] ≤ fmtBds e.args := by
      have e1 : e.args = e.args[0] :: e.args[1] :: e.args.drop 2 := by rw [← List.drop_eq_getElem_cons, ← List.drop_eq_getElem_cons]; rfl
      have e2 : fmtBds e.args = fmtBd e.args[0] + (fmtBd e.args[1] + fmtBds (e.args.drop 2)) := by (conv => lhs; rw [e1]); simp only [fmtBds]
      omega
    repeat' (first | (with_reducible first | refine awp_seq ?_ | refine awp_block ?_ | refine awp_skip ?_ | refine awp_exit ?_ | refine awp_ret ?_ | refine athen ?_ | refine thenExit ?_ | refine thenRet ?_ | refine blockNormal ?_ | refine blockExit ?_ | refine blockRet ?_ | refine roundExit ?_ | refine roundRet ?_ | refine roundExitR ?_ | refine roundRetR ?_) | ((with_reducible refine blockPass ?_ ?_); rfl) | ((with_reducible refine awp_condT ?_ ?_); rfl) | ((with_reducible refine awp_condF ?_ ?_); rfl) | (with_reducible (refine awp_condS rfl ?_ ?_); all_goals (intro hb; have hb' := hb; (try simp only [pkC] at hb'); first | (exfalso; omega) | skip)) | ((with_reducible refine awp_reg ?_); intro K hK) | ((first | ((with_reducible refine awp_regD false ?_ ?_); rfl) | ((with_reducible refine awp_regD true ?_ ?_); rfl)); intro K hK) | ((first | (with_reducible refine awp_regN 99 false dist_nil ?_) | (refine awp_regN 99 false (by simp [DistT, St.ev]) ?_)); intro K hK) | ((with_reducible refine sn_load ?_ ?_); (intro off; simp only [↓pkR, St.ev, List.getD_cons_zero, List.getD_cons_succ]; first | done | (intro hx; cases hx) | (simp; done))) | ((with_reducible refine sn_look ?_ ?_); rfl) | ((with_reducible refine sn_heavy ?_ ?_); rfl) | (with_reducible refine sn_done ?_) | ((with_reducible refine hK _ ?_); clear hK K) | (with_reducible refine and_split ?_ ?_) | ((with_reducible refine ct_id ?_); first | (refine callX1 (h := cs) (hK := ?_); rintro _ _ ⟨⟨lv, hl0, hl1, rfl⟩, rfl⟩) | (refine callX1 (h := (fat_x e.args[0] _ (by omega) hx0)) (hK := ?_); rintro _ _ ⟨⟨s0, hs0, rfl⟩, rfl⟩) | (refine callX1 (h := (fat_x e.args[1] _ (by omega) hx1)) (hK := ?_); rintro _ _ ⟨⟨s1, hs1, rfl⟩, rfl⟩) | (refine callX1 (h := (symbol_x e.n n0 n1)) (hK := ?_); rintro _ _ ⟨⟨sy, hsy, rfl⟩, rfl⟩)) | ((with_reducible refine sn_cid ?_); first | (refine snX1 (h := (fat_x e.args[0] _ (by omega) hx0)) (hne := ⟨_, [], ⟨⟨⟨#[]⟩, Nat.zero_le _, rfl⟩, rfl⟩, rfl⟩) (hr := ?_); rintro _ _ ⟨⟨s0, hs0, rfl⟩, rfl⟩) | (refine snX1 (h := (fat_x e.args[1] _ (by omega) hx1)) (hne := ⟨_, [], ⟨⟨⟨#[]⟩, Nat.zero_le _, rfl⟩, rfl⟩, rfl⟩) (hr := ?_); rintro _ _ ⟨⟨s1, hs1, rfl⟩, rfl⟩) | (refine snX1 (h := (symbol_x e.n n0 n1)) (hne := ⟨_, [], ⟨⟨⟨#[]⟩, Nat.zero_le _, rfl⟩, rfl⟩, rfl⟩) (hr := ?_); rintro _ _ ⟨⟨sy, hsy, rfl⟩, rfl⟩)) | ((with_reducible refine sw_id ?_); simp (disch := first | decide | omega) only [↓pkS, pkW, pkA, pkZ, List.flatMap_cons, List.flatMap_nil, List.append_nil, linSrc, lvD, lcD, lvK, lcK, capsOf, ex, kav, gdA, opI, rawI, vbin, srcOf, AV.toD, AC.toD, AV.nw, AC.nw, AC.one, Value.oneCell', if_true, if_false, Bool.false_eq_true, fillA, D.one, D.sz, Nat.reduceAdd, Nat.reduceSub, Nat.reduceLeDiff, Nat.reduceEqDiff, reduceIte, pkN, Int.reduceLT, Int.reduceLE, li_acs, ls_acs, GExpr.acs_eq, GExpr.flat_eq, GExpr.agg_eq, AV.fl, AC.fl, AV.shift, AC.shift, List.append_nil, f1, f2, f3, f4, f5, f6, f7, f8, f9, catfN, catfI, ByteArray.size_append, szD, List.size_toArray, List.length_cons, List.length_nil, Nat.reduceAdd, i0, i1]) | ((with_reducible refine sd_id ?_); simp (disch := first | decide | omega) only [↓pkR, pkD, pkA, pkZ, List.flatMap_cons, List.flatMap_nil, List.append_nil, linSrc, lvD, lcD, lvK, lcK, capsOf, ex, kav, gdA, opI, rawI, vbin, srcOf, AV.toD, AC.toD, AV.nw, AC.nw, AC.one, Value.oneCell', if_true, if_false, Bool.false_eq_true, fillA, D.one, D.sz, Nat.reduceAdd, Nat.reduceSub, Nat.reduceLeDiff, Nat.reduceEqDiff, reduceIte, pkN, Int.reduceLT, Int.reduceLE, li_acs, ls_acs, GExpr.acs_eq, GExpr.flat_eq, GExpr.agg_eq, AV.fl, AC.fl, AV.shift, AC.shift, List.append_nil, f1, f2, f3, f4, f5, f6, f7, f8, f9, catfN, catfI, ByteArray.size_append, szD, List.size_toArray, List.length_cons, List.length_nil, Nat.reduceAdd, i0, i1]) | (exact GExpr.el _) | exact bndQ | exact argsQ)
    all_goals first
      | omega
      | (simp only [ByteArray.size_append, szD, List.size_toArray, List.length_cons, List.length_nil]; omega)
      | (exact finX_raw rfl rfl ⟨⟨_, by first | omega | (simp only [ByteArray.size_append, szD, List.size_toArray, List.length_cons, List.length_nil]; omega), rfl⟩, rfl⟩)
  · have f1 : (e.kind == 1) = false := by rw [kk]; exact decide_eq_false (by omega)
    have f2 : (e.kind == 2) = false := by rw [kk]; exact decide_eq_false (by omega)
    have f3 : (e.kind == 3) = false := by rw [kk]; exact decide_eq_false (by omega)
    have f4 : (e.kind == 4) = false := by rw [kk]; exact decide_eq_false (by omega)
    have f5 : (e.kind == 5) = false := by rw [kk]; exact decide_eq_false (by omega)
    have f6 : (e.kind == 6) = false := by rw [kk]; exact decide_eq_false (by omega)
    have f7 : (e.kind == 7) = true := by rw [kk]; exact decide_eq_true (by omega)
    have f8 : (e.kind == 8) = false := by rw [kk]; exact decide_eq_false (by omega)
    have f9 : (e.kind == 9) = false := by rw [kk]; exact decide_eq_false (by omega)
    have h0 : 0 < e.args.length := by omega
    have h1 : 1 < e.args.length := by omega
    have i0 : idx (e.args.map GExpr.toD) (some 0) = some (e.args[0]).toD := idx_map GExpr.toD e.args h0
    have i1 : idx (e.args.map GExpr.toD) (some 1) = some (e.args[1]).toD := idx_map GExpr.toD e.args h1
    have hx0 := hI _ (List.getElem_mem h0)
    have hx1 := hI _ (List.getElem_mem h1)
    have hsum : fmtBd e.args[0] + fmtBd e.args[1] ≤ fmtBds e.args := by
      have e1 : e.args = e.args[0] :: e.args[1] :: e.args.drop 2 := by rw [← List.drop_eq_getElem_cons, ← List.drop_eq_getElem_cons]; rfl
      have e2 : fmtBds e.args = fmtBd e.args[0] + (fmtBd e.args[1] + fmtBds (e.args.drop 2)) := by (conv => lhs; rw [e1]); simp only [fmtBds]
      omega
    repeat' (first | (with_reducible first | refine awp_seq ?_ | refine awp_block ?_ | refine awp_skip ?_ | refine awp_exit ?_ | refine awp_ret ?_ | refine athen ?_ | refine thenExit ?_ | refine thenRet ?_ | refine blockNormal ?_ | refine blockExit ?_ | refine blockRet ?_ | refine roundExit ?_ | refine roundRet ?_ | refine roundExitR ?_ | refine roundRetR ?_) | ((with_reducible refine blockPass ?_ ?_); rfl) | ((with_reducible refine awp_condT ?_ ?_); rfl) | ((with_reducible refine awp_condF ?_ ?_); rfl) | (with_reducible (refine awp_condS rfl ?_ ?_); all_goals (intro hb; have hb' := hb; (try simp only [pkC] at hb'); first | (exfalso; omega) | skip)) | ((with_reducible refine awp_reg ?_); intro K hK) | ((first | ((with_reducible refine awp_regD false ?_ ?_); rfl) | ((with_reducible refine awp_regD true ?_ ?_); rfl)); intro K hK) | ((first | (with_reducible refine awp_regN 99 false dist_nil ?_) | (refine awp_regN 99 false (by simp [DistT, St.ev]) ?_)); intro K hK) | ((with_reducible refine sn_load ?_ ?_); (intro off; simp only [↓pkR, St.ev, List.getD_cons_zero, List.getD_cons_succ]; first | done | (intro hx; cases hx) | (simp; done))) | ((with_reducible refine sn_look ?_ ?_); rfl) | ((with_reducible refine sn_heavy ?_ ?_); rfl) | (with_reducible refine sn_done ?_) | ((with_reducible refine hK _ ?_); clear hK K) | (with_reducible refine and_split ?_ ?_) | ((with_reducible refine ct_id ?_); first | (refine callX1 (h := hx0) (hK := ?_); rintro _ _ ⟨⟨s0, hs0, rfl⟩, rfl⟩) | (refine callX1 (h := hx1) (hK := ?_); rintro _ _ ⟨⟨s1, hs1, rfl⟩, rfl⟩)) | ((with_reducible refine sn_cid ?_); first | (refine snX1 (h := hx0) (hne := ⟨_, [], ⟨⟨⟨#[]⟩, Nat.zero_le _, rfl⟩, rfl⟩, rfl⟩) (hr := ?_); rintro _ _ ⟨⟨s0, hs0, rfl⟩, rfl⟩) | (refine snX1 (h := hx1) (hne := ⟨_, [], ⟨⟨⟨#[]⟩, Nat.zero_le _, rfl⟩, rfl⟩, rfl⟩) (hr := ?_); rintro _ _ ⟨⟨s1, hs1, rfl⟩, rfl⟩)) | ((with_reducible refine sw_id ?_); simp (disch := first | decide | omega) only [↓pkS, pkW, pkA, pkZ, List.flatMap_cons, List.flatMap_nil, List.append_nil, linSrc, lvD, lcD, lvK, lcK, capsOf, ex, kav, gdA, opI, rawI, vbin, srcOf, AV.toD, AC.toD, AV.nw, AC.nw, AC.one, Value.oneCell', if_true, if_false, Bool.false_eq_true, fillA, D.one, D.sz, Nat.reduceAdd, Nat.reduceSub, Nat.reduceLeDiff, Nat.reduceEqDiff, reduceIte, pkN, Int.reduceLT, Int.reduceLE, li_acs, ls_acs, GExpr.acs_eq, GExpr.flat_eq, GExpr.agg_eq, AV.fl, AC.fl, AV.shift, AC.shift, List.append_nil, f1, f2, f3, f4, f5, f6, f7, f8, f9, catfN, catfI, ByteArray.size_append, szD, List.size_toArray, List.length_cons, List.length_nil, Nat.reduceAdd, i0, i1]) | ((with_reducible refine sd_id ?_); simp (disch := first | decide | omega) only [↓pkR, pkD, pkA, pkZ, List.flatMap_cons, List.flatMap_nil, List.append_nil, linSrc, lvD, lcD, lvK, lcK, capsOf, ex, kav, gdA, opI, rawI, vbin, srcOf, AV.toD, AC.toD, AV.nw, AC.nw, AC.one, Value.oneCell', if_true, if_false, Bool.false_eq_true, fillA, D.one, D.sz, Nat.reduceAdd, Nat.reduceSub, Nat.reduceLeDiff, Nat.reduceEqDiff, reduceIte, pkN, Int.reduceLT, Int.reduceLE, li_acs, ls_acs, GExpr.acs_eq, GExpr.flat_eq, GExpr.agg_eq, AV.fl, AC.fl, AV.shift, AC.shift, List.append_nil, f1, f2, f3, f4, f5, f6, f7, f8, f9, catfN, catfI, ByteArray.size_append, szD, List.size_toArray, List.length_cons, List.length_nil, Nat.reduceAdd, i0, i1]) | (exact GExpr.el _) | exact bndQ | exact argsQ)
    all_goals first
      | omega
      | (simp only [ByteArray.size_append, szD, List.size_toArray, List.length_cons, List.length_nil]; omega)
      | (exact finX_raw rfl rfl ⟨⟨_, by first | omega | (simp only [ByteArray.size_append, szD, List.size_toArray, List.length_cons, List.length_nil]; omega), rfl⟩, rfl⟩)
  · have f1 : (e.kind == 1) = false := by rw [kk]; exact decide_eq_false (by omega)
    have f2 : (e.kind == 2) = false := by rw [kk]; exact decide_eq_false (by omega)
    have f3 : (e.kind == 3) = false := by rw [kk]; exact decide_eq_false (by omega)
    have f4 : (e.kind == 4) = false := by rw [kk]; exact decide_eq_false (by omega)
    have f5 : (e.kind == 5) = false := by rw [kk]; exact decide_eq_false (by omega)
    have f6 : (e.kind == 6) = false := by rw [kk]; exact decide_eq_false (by omega)
    have f7 : (e.kind == 7) = false := by rw [kk]; exact decide_eq_false (by omega)
    have f8 : (e.kind == 8) = true := by rw [kk]; exact decide_eq_true (by omega)
    have f9 : (e.kind == 9) = false := by rw [kk]; exact decide_eq_false (by omega)
    have h0 : 0 < e.args.length := by omega
    have h1 : 1 < e.args.length := by omega
    have i0 : idx (e.args.map GExpr.toD) (some 0) = some (e.args[0]).toD := idx_map GExpr.toD e.args h0
    have i1 : idx (e.args.map GExpr.toD) (some 1) = some (e.args[1]).toD := idx_map GExpr.toD e.args h1
    have hx0 := hI _ (List.getElem_mem h0)
    have hx1 := hI _ (List.getElem_mem h1)
    have h2 : 2 < e.args.length := by omega
    have i2 : idx (e.args.map GExpr.toD) (some 2) = some (e.args[2]).toD := idx_map GExpr.toD e.args h2
    have hx2 := hI _ (List.getElem_mem h2)
    have hsum : fmtBd e.args[0] + fmtBd e.args[1] + fmtBd e.args[2] ≤ fmtBds e.args := by
      have e1 : e.args = e.args[0] :: e.args[1] :: e.args[2] :: e.args.drop 3 := by rw [← List.drop_eq_getElem_cons, ← List.drop_eq_getElem_cons, ← List.drop_eq_getElem_cons]; rfl
      have e2 : fmtBds e.args = fmtBd e.args[0] + (fmtBd e.args[1] + (fmtBd e.args[2] + fmtBds (e.args.drop 3))) := by (conv => lhs; rw [e1]); simp only [fmtBds]
      omega
    repeat' (first | (with_reducible first | refine awp_seq ?_ | refine awp_block ?_ | refine awp_skip ?_ | refine awp_exit ?_ | refine awp_ret ?_ | refine athen ?_ | refine thenExit ?_ | refine thenRet ?_ | refine blockNormal ?_ | refine blockExit ?_ | refine blockRet ?_ | refine roundExit ?_ | refine roundRet ?_ | refine roundExitR ?_ | refine roundRetR ?_) | ((with_reducible refine blockPass ?_ ?_); rfl) | ((with_reducible refine awp_condT ?_ ?_); rfl) | ((with_reducible refine awp_condF ?_ ?_); rfl) | (with_reducible (refine awp_condS rfl ?_ ?_); all_goals (intro hb; have hb' := hb; (try simp only [pkC] at hb'); first | (exfalso; omega) | skip)) | ((with_reducible refine awp_reg ?_); intro K hK) | ((first | ((with_reducible refine awp_regD false ?_ ?_); rfl) | ((with_reducible refine awp_regD true ?_ ?_); rfl)); intro K hK) | ((first | (with_reducible refine awp_regN 99 false dist_nil ?_) | (refine awp_regN 99 false (by simp [DistT, St.ev]) ?_)); intro K hK) | ((with_reducible refine sn_load ?_ ?_); (intro off; simp only [↓pkR, St.ev, List.getD_cons_zero, List.getD_cons_succ]; first | done | (intro hx; cases hx) | (simp; done))) | ((with_reducible refine sn_look ?_ ?_); rfl) | ((with_reducible refine sn_heavy ?_ ?_); rfl) | (with_reducible refine sn_done ?_) | ((with_reducible refine hK _ ?_); clear hK K) | (with_reducible refine and_split ?_ ?_) | ((with_reducible refine ct_id ?_); first | (refine callX1 (h := hx0) (hK := ?_); rintro _ _ ⟨⟨s0, hs0, rfl⟩, rfl⟩) | (refine callX1 (h := hx1) (hK := ?_); rintro _ _ ⟨⟨s1, hs1, rfl⟩, rfl⟩) | (refine callX1 (h := hx2) (hK := ?_); rintro _ _ ⟨⟨s2, hs2, rfl⟩, rfl⟩)) | ((with_reducible refine sn_cid ?_); first | (refine snX1 (h := hx0) (hne := ⟨_, [], ⟨⟨⟨#[]⟩, Nat.zero_le _, rfl⟩, rfl⟩, rfl⟩) (hr := ?_); rintro _ _ ⟨⟨s0, hs0, rfl⟩, rfl⟩) | (refine snX1 (h := hx1) (hne := ⟨_, [], ⟨⟨⟨#[]⟩, Nat.zero_le _, rfl⟩, rfl⟩, rfl⟩) (hr := ?_); rintro _ _ ⟨⟨s1, hs1, rfl⟩, rfl⟩) | (refine snX1 (h := hx2) (hne := ⟨_, [], ⟨⟨⟨#[]⟩, Nat.zero_le _, rfl⟩, rfl⟩, rfl⟩) (hr := ?_); rintro _ _ ⟨⟨s2, hs2, rfl⟩, rfl⟩)) | ((with_reducible refine sw_id ?_); simp (disch := first | decide | omega) only [↓pkS, pkW, pkA, pkZ, List.flatMap_cons, List.flatMap_nil, List.append_nil, linSrc, lvD, lcD, lvK, lcK, capsOf, ex, kav, gdA, opI, rawI, vbin, srcOf, AV.toD, AC.toD, AV.nw, AC.nw, AC.one, Value.oneCell', if_true, if_false, Bool.false_eq_true, fillA, D.one, D.sz, Nat.reduceAdd, Nat.reduceSub, Nat.reduceLeDiff, Nat.reduceEqDiff, reduceIte, pkN, Int.reduceLT, Int.reduceLE, li_acs, ls_acs, GExpr.acs_eq, GExpr.flat_eq, GExpr.agg_eq, AV.fl, AC.fl, AV.shift, AC.shift, List.append_nil, f1, f2, f3, f4, f5, f6, f7, f8, f9, catfN, catfI, ByteArray.size_append, szD, List.size_toArray, List.length_cons, List.length_nil, Nat.reduceAdd, i0, i1, i2]) | ((with_reducible refine sd_id ?_); simp (disch := first | decide | omega) only [↓pkR, pkD, pkA, pkZ, List.flatMap_cons, List.flatMap_nil, List.append_nil, linSrc, lvD, lcD, lvK, lcK, capsOf, ex, kav, gdA, opI, rawI, vbin, srcOf, AV.toD, AC.toD, AV.nw, AC.nw, AC.one, Value.oneCell', if_true, if_false, Bool.false_eq_true, fillA, D.one, D.sz, Nat.reduceAdd, Nat.reduceSub, Nat.reduceLeDiff, Nat.reduceEqDiff, reduceIte, pkN, Int.reduceLT, Int.reduceLE, li_acs, ls_acs, GExpr.acs_eq, GExpr.flat_eq, GExpr.agg_eq, AV.fl, AC.fl, AV.shift, AC.shift, List.append_nil, f1, f2, f3, f4, f5, f6, f7, f8, f9, catfN, catfI, ByteArray.size_append, szD, List.size_toArray, List.length_cons, List.length_nil, Nat.reduceAdd, i0, i1, i2]) | (exact GExpr.el _) | exact bndQ | exact argsQ)
    all_goals first
      | omega
      | (simp only [ByteArray.size_append, szD, List.size_toArray, List.length_cons, List.length_nil]; omega)
      | (exact finX_raw rfl rfl ⟨⟨_, by first | omega | (simp only [ByteArray.size_append, szD, List.size_toArray, List.length_cons, List.length_nil]; omega), rfl⟩, rfl⟩)
  · have f1 : (e.kind == 1) = false := by rw [kk]; exact decide_eq_false (by omega)
    have f2 : (e.kind == 2) = false := by rw [kk]; exact decide_eq_false (by omega)
    have f3 : (e.kind == 3) = false := by rw [kk]; exact decide_eq_false (by omega)
    have f4 : (e.kind == 4) = false := by rw [kk]; exact decide_eq_false (by omega)
    have f5 : (e.kind == 5) = false := by rw [kk]; exact decide_eq_false (by omega)
    have f6 : (e.kind == 6) = false := by rw [kk]; exact decide_eq_false (by omega)
    have f7 : (e.kind == 7) = false := by rw [kk]; exact decide_eq_false (by omega)
    have f8 : (e.kind == 8) = false := by rw [kk]; exact decide_eq_false (by omega)
    have f9 : (e.kind == 9) = true := by rw [kk]; exact decide_eq_true (by omega)
    have h0 : 0 < e.args.length := by omega
    have h1 : 1 < e.args.length := by omega
    have i0 : idx (e.args.map GExpr.toD) (some 0) = some (e.args[0]).toD := idx_map GExpr.toD e.args h0
    have i1 : idx (e.args.map GExpr.toD) (some 1) = some (e.args[1]).toD := idx_map GExpr.toD e.args h1
    have hx0 := hI _ (List.getElem_mem h0)
    have hx1 := hI _ (List.getElem_mem h1)
    have hsum : fmtBd e.args[0] + fmtBd e.args[1] ≤ fmtBds e.args := by
      have e1 : e.args = e.args[0] :: e.args[1] :: e.args.drop 2 := by rw [← List.drop_eq_getElem_cons, ← List.drop_eq_getElem_cons]; rfl
      have e2 : fmtBds e.args = fmtBd e.args[0] + (fmtBd e.args[1] + fmtBds (e.args.drop 2)) := by (conv => lhs; rw [e1]); simp only [fmtBds]
      omega
    repeat' (first | (with_reducible first | refine awp_seq ?_ | refine awp_block ?_ | refine awp_skip ?_ | refine awp_exit ?_ | refine awp_ret ?_ | refine athen ?_ | refine thenExit ?_ | refine thenRet ?_ | refine blockNormal ?_ | refine blockExit ?_ | refine blockRet ?_ | refine roundExit ?_ | refine roundRet ?_ | refine roundExitR ?_ | refine roundRetR ?_) | ((with_reducible refine blockPass ?_ ?_); rfl) | ((with_reducible refine awp_condT ?_ ?_); rfl) | ((with_reducible refine awp_condF ?_ ?_); rfl) | (with_reducible (refine awp_condS rfl ?_ ?_); all_goals (intro hb; have hb' := hb; (try simp only [pkC] at hb'); first | (exfalso; omega) | skip)) | ((with_reducible refine awp_reg ?_); intro K hK) | ((first | ((with_reducible refine awp_regD false ?_ ?_); rfl) | ((with_reducible refine awp_regD true ?_ ?_); rfl)); intro K hK) | ((first | (with_reducible refine awp_regN 99 false dist_nil ?_) | (refine awp_regN 99 false (by simp [DistT, St.ev]) ?_)); intro K hK) | ((with_reducible refine sn_load ?_ ?_); (intro off; simp only [↓pkR, St.ev, List.getD_cons_zero, List.getD_cons_succ]; first | done | (intro hx; cases hx) | (simp; done))) | ((with_reducible refine sn_look ?_ ?_); rfl) | ((with_reducible refine sn_heavy ?_ ?_); rfl) | (with_reducible refine sn_done ?_) | ((with_reducible refine hK _ ?_); clear hK K) | (with_reducible refine and_split ?_ ?_) | ((with_reducible refine ct_id ?_); first | (refine callX1 (h := hx0) (hK := ?_); rintro _ _ ⟨⟨s0, hs0, rfl⟩, rfl⟩) | (refine callX1 (h := hx1) (hK := ?_); rintro _ _ ⟨⟨s1, hs1, rfl⟩, rfl⟩)) | ((with_reducible refine sn_cid ?_); first | (refine snX1 (h := hx0) (hne := ⟨_, [], ⟨⟨⟨#[]⟩, Nat.zero_le _, rfl⟩, rfl⟩, rfl⟩) (hr := ?_); rintro _ _ ⟨⟨s0, hs0, rfl⟩, rfl⟩) | (refine snX1 (h := hx1) (hne := ⟨_, [], ⟨⟨⟨#[]⟩, Nat.zero_le _, rfl⟩, rfl⟩, rfl⟩) (hr := ?_); rintro _ _ ⟨⟨s1, hs1, rfl⟩, rfl⟩)) | ((with_reducible refine sw_id ?_); simp (disch := first | decide | omega) only [↓pkS, pkW, pkA, pkZ, List.flatMap_cons, List.flatMap_nil, List.append_nil, linSrc, lvD, lcD, lvK, lcK, capsOf, ex, kav, gdA, opI, rawI, vbin, srcOf, AV.toD, AC.toD, AV.nw, AC.nw, AC.one, Value.oneCell', if_true, if_false, Bool.false_eq_true, fillA, D.one, D.sz, Nat.reduceAdd, Nat.reduceSub, Nat.reduceLeDiff, Nat.reduceEqDiff, reduceIte, pkN, Int.reduceLT, Int.reduceLE, li_acs, ls_acs, GExpr.acs_eq, GExpr.flat_eq, GExpr.agg_eq, AV.fl, AC.fl, AV.shift, AC.shift, List.append_nil, f1, f2, f3, f4, f5, f6, f7, f8, f9, catfN, catfI, ByteArray.size_append, szD, List.size_toArray, List.length_cons, List.length_nil, Nat.reduceAdd, i0, i1]) | ((with_reducible refine sd_id ?_); simp (disch := first | decide | omega) only [↓pkR, pkD, pkA, pkZ, List.flatMap_cons, List.flatMap_nil, List.append_nil, linSrc, lvD, lcD, lvK, lcK, capsOf, ex, kav, gdA, opI, rawI, vbin, srcOf, AV.toD, AC.toD, AV.nw, AC.nw, AC.one, Value.oneCell', if_true, if_false, Bool.false_eq_true, fillA, D.one, D.sz, Nat.reduceAdd, Nat.reduceSub, Nat.reduceLeDiff, Nat.reduceEqDiff, reduceIte, pkN, Int.reduceLT, Int.reduceLE, li_acs, ls_acs, GExpr.acs_eq, GExpr.flat_eq, GExpr.agg_eq, AV.fl, AC.fl, AV.shift, AC.shift, List.append_nil, f1, f2, f3, f4, f5, f6, f7, f8, f9, catfN, catfI, ByteArray.size_append, szD, List.size_toArray, List.length_cons, List.length_nil, Nat.reduceAdd, i0, i1]) | (exact GExpr.el _) | exact bndQ | exact argsQ)
    all_goals first
      | omega
      | (simp only [ByteArray.size_append, szD, List.size_toArray, List.length_cons, List.length_nil]; omega)
      | (exact finX_raw rfl rfl ⟨⟨_, by first | omega | (simp only [ByteArray.size_append, szD, List.size_toArray, List.length_cons, List.length_nil]; omega), rfl⟩, rfl⟩)
theorem ftext_all : ∀ (n : Nat) (e : GExpr), e.toD.wt < n → e.toD.wt ≤ 1000000 → e.allN = true → Said_text e := by
  intro n
  induction n with
  | zero => intro e h; omega
  | succ n ih => intro e h hw ha; exact ftext_x e hw (allN_node ha) (fun y hy => ih y (by have := wtE_mem hy; omega) (by have := wtE_mem hy; omega) (allN_mem ha hy))
def ic_fexpr : IC := (.seq (.reg false [⟨(some 1), none, .box (.t 0)⟩, ⟨(some 2), none, .mov (.k (.string ⟨#[]⟩))⟩]) (.seq (.seq (.reg false [⟨(some 3), none, .load 4 true (.t 1)⟩, ⟨(some 4), none, .call 83 [(.t 3)]⟩, ⟨(some 5), none, .not (.t 4)⟩]) (.cond (.t 5) (.seq (.reg false [⟨(some 2), none, .mov (.k (.string ⟨#[]⟩))⟩]) .ret) .skip)) (.seq (.reg false [⟨(some 6), none, .load 4 true (.t 1)⟩, ⟨(some 7), none, .call 84 [(.t 6)]⟩, ⟨(some 2), none, .mov (.t 7)⟩]) .ret)))
theorem ic_fexpr_ok : compC Try.prog (Try.f72.body.getD .skip) = some ic_fexpr := by kernel_rfl
set_option maxRecDepth 8000 in
set_option maxHeartbeats 8000000 in
theorem fexpr_x (e : GExpr) (hw : e.toD.wt ≤ 1000000) : CallsXE Try.prog 72 [e.toD] (fun r os' => (∃ s : ByteArray, s.size ≤ fmtBd e ∧ r = .c false [.raw (.string s)]) ∧ os' = []) := by
  refine calls_xe (fn := Try.f72) (r := .tmp 2) (by kernel_rfl) (by kernel_rfl) (by kernel_rfl) ic_fexpr_ok ?_
  unfold ic_fexpr
  change AWP _ _ _ (st0 8 _)
  simp only [undef, stS, st0, stN, D.av, D.avN, sl_agg, leaf_agg, li_agg, ls_agg, sl_acs, leaf_acs, li_acs, ls_acs, GExpr.acs_eq, GExpr.flat_eq, GExpr.agg_eq, List.map_cons, List.map_nil, List.replicate, List.cons_append, List.nil_append, List.length_cons, List.length_nil, Nat.reduceAdd, Nat.reduceSub, Nat.reduceLeDiff, Nat.reduceEqDiff]
  have c1 := validE_spec_to e (by omega)
  cases hv : validE e
  · rw [hv] at c1
    repeat' (first | (with_reducible first | refine awp_seq ?_ | refine awp_block ?_ | refine awp_skip ?_ | refine awp_exit ?_ | refine awp_ret ?_ | refine athen ?_ | refine thenExit ?_ | refine thenRet ?_ | refine blockNormal ?_ | refine blockExit ?_ | refine blockRet ?_ | refine roundExit ?_ | refine roundRet ?_ | refine roundExitR ?_ | refine roundRetR ?_) | ((with_reducible refine blockPass ?_ ?_); rfl) | ((with_reducible refine awp_condT ?_ ?_); rfl) | ((with_reducible refine awp_condF ?_ ?_); rfl) | (with_reducible (refine awp_condS rfl ?_ ?_); all_goals (intro hb; have hb' := hb; (try simp only [pkC] at hb'); first | (exfalso; omega) | skip)) | ((with_reducible refine awp_reg ?_); intro K hK) | ((with_reducible refine hK _ ?_); clear hK K) | (with_reducible refine and_split ?_ ?_) | ((with_reducible refine ct_id ?_); first | refine callT1 (hc := c1) (h := ?_)) | ((with_reducible refine sw_id ?_); simp (disch := first | decide | omega) only [↓pkS, pkW, pkA, pkZ, List.flatMap_cons, List.flatMap_nil, List.append_nil, linSrc, lvD, lcD, lvK, lcK, capsOf, ex, kav, gdA, opI, rawI, vbin, srcOf, AV.toD, AC.toD, AV.nw, AC.nw, AC.one, Value.oneCell', if_true, if_false, Bool.false_eq_true, fillA, D.one, D.sz, Nat.reduceAdd, Nat.reduceSub, Nat.reduceLeDiff, Nat.reduceEqDiff, reduceIte, pkN, Int.reduceLT, Int.reduceLE, li_acs, ls_acs, GExpr.acs_eq, GExpr.flat_eq, GExpr.agg_eq, AV.fl, AC.fl, AV.shift, AC.shift, List.append_nil]) | (exact GExpr.el _) | exact bndQ | exact argsQ)
    exact finX_raw rfl rfl ⟨⟨_, Nat.zero_le _, rfl⟩, rfl⟩
  · rw [hv] at c1
    have ha : e.allN = true := by unfold validE at hv; simp only [Bool.and_eq_true] at hv; exact hv.2
    have c2 := ftext_all _ e (Nat.lt_succ_self _) hw ha
    unfold Said_text at c2
    repeat' (first | (with_reducible first | refine awp_seq ?_ | refine awp_block ?_ | refine awp_skip ?_ | refine awp_exit ?_ | refine awp_ret ?_ | refine athen ?_ | refine thenExit ?_ | refine thenRet ?_ | refine blockNormal ?_ | refine blockExit ?_ | refine blockRet ?_ | refine roundExit ?_ | refine roundRet ?_ | refine roundExitR ?_ | refine roundRetR ?_) | ((with_reducible refine blockPass ?_ ?_); rfl) | ((with_reducible refine awp_condT ?_ ?_); rfl) | ((with_reducible refine awp_condF ?_ ?_); rfl) | (with_reducible (refine awp_condS rfl ?_ ?_); all_goals (intro hb; have hb' := hb; (try simp only [pkC] at hb'); first | (exfalso; omega) | skip)) | ((with_reducible refine awp_reg ?_); intro K hK) | ((with_reducible refine hK _ ?_); clear hK K) | (with_reducible refine and_split ?_ ?_) | ((with_reducible refine ct_id ?_); first | refine callT1 (hc := c1) (h := ?_) | (refine callX1 (h := c2) (hK := ?_); rintro _ _ ⟨⟨s, hs, rfl⟩, rfl⟩)) | ((with_reducible refine sw_id ?_); simp (disch := first | decide | omega) only [↓pkS, pkW, pkA, pkZ, List.flatMap_cons, List.flatMap_nil, List.append_nil, linSrc, lvD, lcD, lvK, lcK, capsOf, ex, kav, gdA, opI, rawI, vbin, srcOf, AV.toD, AC.toD, AV.nw, AC.nw, AC.one, Value.oneCell', if_true, if_false, Bool.false_eq_true, fillA, D.one, D.sz, Nat.reduceAdd, Nat.reduceSub, Nat.reduceLeDiff, Nat.reduceEqDiff, reduceIte, pkN, Int.reduceLT, Int.reduceLE, li_acs, ls_acs, GExpr.acs_eq, GExpr.flat_eq, GExpr.agg_eq, AV.fl, AC.fl, AV.shift, AC.shift, List.append_nil]) | (exact GExpr.el _) | exact bndQ | exact argsQ)
    exact finX_raw rfl rfl ⟨⟨_, hs, rfl⟩, rfl⟩
end Go.Proofs.Ytnongnchpplacaa

