/-
  Texts joined: Num Fmt Fex.
-/
import Derived.Test.YtnongnchpplacaaJA
import Derived.Test.YtnongnchpplacaaJE
import Derived.Test.YtnongnchpplacaaShelf
import Derived.Lib.AppendIntMem
import Derived.Lib.ItoaLen
import Derived.Test.YtnongnchpplacaaJO
import Derived.Test.YtnongnchpplacaaJX
namespace Go.Proofs.Ytnongnchpplacaa
open Go.RowKit
set_option linter.unusedSimpArgs false
set_option linter.unusedVariables false
def Gv (n : Int) : ByteArray := ⟨(Lib.itoa n).toArray⟩
theorem JR {n : Int} (h0 : -9223372036854775808 ≤ n) (h1 : n ≤ 9223372036854775807) : (Gv n).size ≤ 21 := by
  have := Lib.itoa_length_le n h0 h1
  simpa [Gv, ByteArray.size] using this
theorem Xb {u : Nat} (h : ¬ u < 10) : Lib.decDigits u = Lib.decDigits (u / 10) ++ [UInt8.ofNat (48 + u % 10)] := by
  rw [Lib.decDigits, dif_neg h]
theorem Xa {u : Nat} (h : u ≤ 9223372036854775808) : (Lib.decDigits u).length ≤ 21 := by
  by_cases h0 : u = 0
  · subst h0; rw [Lib.decDigits_one (by decide)]; decide
  · have := Lib.itoa_length_le (-(u : Int)) (by omega) (by omega)
    rw [Lib.itoa_neg u (by omega)] at this
    simp at this
    omega
def oK (n0 n : Int) (o : List UInt8) : Prop := n.natAbs ≤ n0.natAbs ∧ (0 ≤ n0 → 0 ≤ n) ∧ (n0 ≤ 0 → n ≤ 0) ∧ (if n = 0 then o = Lib.decDigits n0.natAbs else Lib.decDigits n.natAbs ++ o = Lib.decDigits n0.natAbs)
theorem oK.start {n0 : Int} (h : n0 ≠ 0) : oK n0 n0 [] := ⟨Nat.le_refl _, id, id, by rw [if_neg h, List.append_nil]⟩
theorem oK.len {n0 n : Int} {o : List UInt8} (h : oK n0 n o) (hb : n0.natAbs ≤ 9223372036854775808) : o.length ≤ 21 := by
  have hl := Xa hb
  obtain ⟨_, _, _, h⟩ := h
  split at h
  · rw [h]; exact hl
  · rw [← h, List.length_append] at hl; omega
theorem Hr (n : Int) : (n.tdiv 10).natAbs = n.natAbs / 10 := by rw [Int.natAbs_tdiv]; rfl
theorem Hq (n : Int) : (0 ≤ n → 0 ≤ n.tdiv 10) ∧ (n ≤ 0 → n.tdiv 10 ≤ 0) := by
  refine ⟨fun h => Int.tdiv_nonneg h (by decide), fun h => ?_⟩
  have := Int.tdiv_nonneg (a := -n) (b := 10) (by omega) (by decide)
  rw [Int.neg_tdiv] at this
  omega
theorem oK.go {n0 n : Int} {o : List UInt8} (h : oK n0 n o) (hn : n ≠ 0) : oK n0 (n.tdiv 10) (UInt8.ofNat (48 + n.natAbs % 10) :: o) := by
  obtain ⟨h1, h2, h3, h4⟩ := h
  rw [if_neg hn] at h4
  have ha := Hr n
  have hsg := Hq n
  refine ⟨by omega, fun hp => ?_, fun hp => ?_, ?_⟩
  · have := h2 hp; omega
  · have := h3 hp; omega
  · by_cases hs : n.natAbs < 10
    · have hz : n.tdiv 10 = 0 := by omega
      rw [if_pos hz, ← h4, Lib.decDigits_one hs, Nat.mod_eq_of_lt hs]
      rfl
    · have hz : n.tdiv 10 ≠ 0 := by omega
      rw [if_neg hz, ← h4, Xb hs, ha]
      simp
theorem oK.fin {n0 : Int} {o : List UInt8} (h : oK n0 0 o) : o = Lib.decDigits n0.natAbs := by
  obtain ⟨_, _, _, h⟩ := h
  simpa using h
theorem JQ {n : Int} (h : 0 ≤ n) : Gv n = ⟨(Lib.decDigits n.natAbs).toArray⟩ := by
  unfold Gv Lib.itoa
  rw [if_neg (by omega)]
  have e : n.toNat = n.natAbs := by omega
  rw [e]
theorem Tn {n : Int} (h : n < 0) : Gv n = ⟨(45 :: Lib.decDigits n.natAbs).toArray⟩ := by
  unfold Gv Lib.itoa
  rw [if_pos h]
theorem Us (a b : List UInt8) : (⟨a.toArray⟩ : ByteArray) ++ ⟨b.toArray⟩ = ⟨(a ++ b).toArray⟩ := by
  apply ByteArray.ext
  simp
theorem MJ {d : Int} (h0 : 0 ≤ d) (h1 : d ≤ 255) : IntKind.u8.wrap d = d := by
  simp [IntKind.wrap, IntKind.signed, IntKind.bits]
  omega
theorem UN {α : Type} {x y : α} : (if (10 : Int) = 0 then x else y) = y := if_neg (by decide)
def zH : IC := (.seq (.reg false [⟨(some 2), none, .mov (.k (.string ⟨#[]⟩))⟩]) (.seq (.seq (.reg false [⟨(some 6), none, .mov (.t 0)⟩, ⟨(some 7), none, .bin .eql (.t 6) (.k (.int .i64 0))⟩]) (.cond (.t 7) (.seq (.reg false [⟨(some 2), none, .mov (.k (.string ⟨#[48]⟩))⟩]) .ret) .skip)) (.seq (.reg false [⟨(some 8), none, .mov (.t 0)⟩, ⟨(some 9), none, .bin .lss (.t 8) (.k (.int .i64 0))⟩, ⟨(some 3), none, .mov (.t 9)⟩]) (.seq (.reg false [⟨(some 4), none, .mov (.k (.string ⟨#[]⟩))⟩]) (.seq (.block 0 (.loop (.seq (.seq (.reg false [⟨(some 10), none, .mov (.t 0)⟩, ⟨(some 11), none, .bin .neq (.t 10) (.k (.int .i64 0))⟩]) (.cond (.t 11) .skip (.exit 0))) (.block 1 (.seq (.reg false [⟨(some 12), none, .mov (.t 0)⟩, ⟨(some 13), none, .bin .rem (.t 12) (.k (.int .i64 10))⟩, ⟨(some 5), none, .mov (.t 13)⟩]) (.seq (.seq (.reg false [⟨(some 14), none, .mov (.t 5)⟩, ⟨(some 15), none, .bin .lss (.t 14) (.k (.int .i64 0))⟩]) (.cond (.t 15) (.reg false [⟨(some 16), none, .mov (.t 5)⟩, ⟨(some 17), none, .bin .sub (.k (.int .i64 0)) (.t 16)⟩, ⟨(some 5), none, .mov (.t 17)⟩]) .skip)) (.seq (.reg false [⟨(some 18), none, .mov (.t 5)⟩, ⟨(some 19), none, .bin .add (.k (.int .i64 48)) (.t 18)⟩, ⟨(some 20), none, .cvi .u8 (.t 19)⟩, ⟨(some 21), none, .brow true 5 1 1 false [(.t 20)]⟩, ⟨(some 22), none, .cvs (.t 21)⟩, ⟨(some 23), none, .mov (.t 4)⟩, ⟨(some 24), none, .bin .add (.t 22) (.t 23)⟩, ⟨(some 4), none, .mov (.t 24)⟩]) (.reg false [⟨(some 25), none, .mov (.t 0)⟩, ⟨(some 26), none, .bin .quo (.t 25) (.k (.int .i64 10))⟩, ⟨(some 0), none, .mov (.t 26)⟩])))))))) (.seq (.seq (.reg false [⟨(some 27), none, .mov (.t 3)⟩]) (.cond (.t 27) (.seq (.reg false [⟨(some 28), none, .mov (.t 4)⟩, ⟨(some 29), none, .bin .add (.k (.string ⟨#[45]⟩)) (.t 28)⟩, ⟨(some 2), none, .mov (.t 29)⟩]) .ret) .skip)) (.seq (.reg false [⟨(some 30), none, .mov (.t 4)⟩, ⟨(some 2), none, .mov (.t 30)⟩]) .ret)))))))
theorem BZ : aF Try.prog (Try.f68.body.getD .skip) = some zH := by kernel_rfl
theorem qN {a : UInt8} {o : List UInt8} (h : o.length ≤ 21) : ((((⟨#[a]⟩ : ByteArray).size + (⟨o.toArray⟩ : ByteArray).size : Nat) : Int) > IntKind.i64.max) = False := by
  have e1 : (⟨o.toArray⟩ : ByteArray).size = o.length := by simp [ByteArray.size]
  have e2 : (⟨#[a]⟩ : ByteArray).size = 1 := rfl
  have e3 : IntKind.i64.max = 9223372036854775807 := by decide
  rw [e1, e2, e3]
  simp
  omega
theorem AB {a : UInt8} {o : List UInt8} (h : o.length ≤ 21) : (9223372036854775807 < ((((⟨#[a]⟩ : ByteArray).size : Nat) : Int) + (((⟨o.toArray⟩ : ByteArray).size : Nat) : Int))) = False := by
  have e1 : (⟨o.toArray⟩ : ByteArray).size = o.length := by simp [ByteArray.size]
  have e2 : (⟨#[a]⟩ : ByteArray).size = 1 := rfl
  rw [e1, e2]
  simp
  omega
set_option maxHeartbeats 8000000 in
theorem qL {n : Int} (h0 : -9223372036854775808 ≤ n) (h1 : n ≤ 9223372036854775807) : aK Try.prog 68 [li n] (.c false [.raw (.string (Gv n))]) := by
  refine fZ (fn := Try.f68) (t := 2) (by kernel_rfl) (by kernel_rfl) (by kernel_rfl) BZ ?_
  unfold zH
  change AWP _ _ _ (st0 31 _)
  simp only [undef, stS, st0, stN, D.av, D.avN, kT, gW, kW, kV, lJ, pW, fV, fU, List.map_cons, List.map_nil, List.replicate, List.cons_append, List.nil_append, List.length_cons, List.length_nil, Nat.reduceAdd, Nat.reduceSub]
  by_cases hz : n = 0
  · subst hz
    have hz' : ((0 : Int) == 0) = true := rfl
    repeat' (first | (with_reducible first | refine kN ?_ | refine iK ?_ | refine jG ?_ | refine jH ?_ | refine kP ?_ | refine rP ?_ | refine jv ?_ | refine kK ?_ | refine fG ?_ | refine iH ?_ | refine jF ?_ | refine iD ?_ | refine jC ?_ | refine iM ?_ | refine jB ?_) | ((with_reducible refine iG ?_ ?_); rfl) | ((with_reducible refine iI ?_ ?_); rfl) | ((with_reducible refine iJ ?_ ?_); rfl) | (with_reducible (refine jI rfl ?_ ?_); all_goals (intro hb; have hb' := hb; (try simp only [pkC] at hb'); first | (exfalso; omega) | skip)) | ((with_reducible refine aG ?_); intro K hK) | ((with_reducible refine hK _ ?_); clear hK K) | (with_reducible refine ak ?_ ?_) | ((with_reducible refine aH ?_); simp (disch := first | decide | omega) only [↓pkS, pkW, pkA, undef, List.flatMap_cons, List.flatMap_nil, List.append_nil, jT, oW, lvD, rF, lcD, lvK, lcK, eF, dS, jh, ex, St.put, St.ev, kav, gdA, opI, fH, rW, jL, oD, rQ, AV.toD, AC.toD, AV.nw, AC.nw, AC.one, Value.oneCell', dV, dh, dH, dU, gJ, fJ, if_true, if_false, Bool.false_eq_true, jR, D.one, D.ones, D.sz, D.szs, Nat.reduceAdd, Nat.reduceSub, Nat.reduceLeDiff, Nat.reduceEqDiff, reduceIte, pkN, fV, fU, hz']) | (first | (with_reducible rfl) | (with_reducible refine mX ?_; kernel_rfl) | exact jr _ | exact jW _ | exact el_ln _ | exact el_tk _ _ | exact el_td _ _ _ | omega | (simp; done) | (simp; omega)) | ((with_reducible refine nV ?_); simp [bP, oO, jX, ny, AC.toD, dV, dh, dH, dU, Value.oneCell', mM, iE, mV, mQ, kT, gW, kW, kV, yI, yJ, fV, fU, hz']; first | done | rfl))
    exact aS ⟨_, rfl, by rw [JQ (by decide)]; rw [show Lib.decDigits (Int.natAbs 0) = [48] from by rw [Lib.decDigits_one (by decide)]; rfl]; rfl, trivial⟩
  have hz' : (n == 0) = false := by simp [hz]
  repeat' (first | (with_reducible first | refine kN ?_ | refine iK ?_ | refine jG ?_ | refine jH ?_ | refine kP ?_ | refine rP ?_ | refine jv ?_ | refine kK ?_ | refine fG ?_ | refine iH ?_ | refine jF ?_ | refine iD ?_ | refine jC ?_ | refine iM ?_ | refine jB ?_) | ((with_reducible refine iG ?_ ?_); rfl) | ((with_reducible refine iI ?_ ?_); rfl) | ((with_reducible refine iJ ?_ ?_); rfl) | (with_reducible (refine jI rfl ?_ ?_); all_goals (intro hb; have hb' := hb; (try simp only [pkC] at hb'); first | (exfalso; omega) | skip)) | ((with_reducible refine aG ?_); intro K hK) | ((with_reducible refine hK _ ?_); clear hK K) | (with_reducible refine ak ?_ ?_) | ((with_reducible refine aH ?_); simp (disch := first | decide | omega) only [↓pkS, pkW, pkA, undef, List.flatMap_cons, List.flatMap_nil, List.append_nil, jT, oW, lvD, rF, lcD, lvK, lcK, eF, dS, jh, ex, St.put, St.ev, kav, gdA, opI, fH, rW, jL, oD, rQ, AV.toD, AC.toD, AV.nw, AC.nw, AC.one, Value.oneCell', dV, dh, dH, dU, gJ, fJ, if_true, if_false, Bool.false_eq_true, jR, D.one, D.ones, D.sz, D.szs, Nat.reduceAdd, Nat.reduceSub, Nat.reduceLeDiff, Nat.reduceEqDiff, reduceIte, pkN, fV, fU, hz']) | (first | (with_reducible rfl) | (with_reducible refine mX ?_; kernel_rfl) | exact jr _ | exact jW _ | exact el_ln _ | exact el_tk _ _ | exact el_td _ _ _ | omega | (simp; done) | (simp; omega)) | ((with_reducible refine nV ?_); simp [bP, oO, jX, ny, AC.toD, dV, dh, dH, dU, Value.oneCell', mM, iE, mV, mQ, kT, gW, kW, kV, yI, yJ, fV, fU, hz']; first | done | rfl))
  refine kQ (X := Int × List UInt8) (fun q => [.v (.c false [.raw (.int .i64 q.1)]), .d, .d, .v (.c false [.raw (.bool (decide (n < 0)))]), .v (.c false [.raw (.string ⟨q.2.toArray⟩)]), .d, .d, .d, .d, .d, .d, .d, .d, .d, .d, .d, .d, .d, .d, .d, .d, .d, .d, .d, .d, .d, .d, .d, .d, .d, .d]) (fun q => []) (fun q bs => []) (fun q => oK n q.1 q.2) (fun q => q.1.natAbs) (n, []) (oK.start hz) ?_ ?_
  · simp [gu, je, gX, gZ, AV.fits, AC.fits, FB, fF]
  rintro ⟨m, o⟩ hv
  simp only [FB, fF]
  have hv : oK n m o := hv
  have hab := hv.1
  by_cases hm : m = 0
  · subst hm
    have hne : ((0 : Int) != 0) = false := rfl
    have ho := hv.fin
    have hlen := hv.len (by omega)
    by_cases hb : n < 0
    · have hb' : decide (n < 0) = true := decide_eq_true hb
      repeat' (first | (with_reducible first | refine kN ?_ | refine iK ?_ | refine jG ?_ | refine jH ?_ | refine kP ?_ | refine rP ?_ | refine jv ?_ | refine kK ?_ | refine fG ?_ | refine iH ?_ | refine jF ?_ | refine iD ?_ | refine jC ?_ | refine iM ?_ | refine jB ?_) | ((with_reducible refine iG ?_ ?_); rfl) | ((with_reducible refine iI ?_ ?_); rfl) | ((with_reducible refine iJ ?_ ?_); rfl) | (with_reducible (refine jI rfl ?_ ?_); all_goals (intro hb; have hb' := hb; (try simp only [pkC] at hb'); first | (exfalso; omega) | skip)) | ((with_reducible refine aG ?_); intro K hK) | ((with_reducible refine hK _ ?_); clear hK K) | (with_reducible refine ak ?_ ?_) | ((with_reducible refine aH ?_); simp (disch := first | decide | omega) only [↓pkS, pkW, pkA, undef, List.flatMap_cons, List.flatMap_nil, List.append_nil, jT, oW, lvD, rF, lcD, lvK, lcK, eF, dS, jh, ex, St.put, St.ev, kav, gdA, opI, fH, rW, jL, oD, rQ, AV.toD, AC.toD, AV.nw, AC.nw, AC.one, Value.oneCell', dV, dh, dH, dU, gJ, fJ, if_true, if_false, Bool.false_eq_true, jR, D.one, D.ones, D.sz, D.szs, Nat.reduceAdd, Nat.reduceSub, Nat.reduceLeDiff, Nat.reduceEqDiff, reduceIte, pkN, fV, fU, hne, hb', qN hlen, AB hlen]) | (first | (with_reducible rfl) | (with_reducible refine mX ?_; kernel_rfl) | exact jr _ | exact jW _ | exact el_ln _ | exact el_tk _ _ | exact el_td _ _ _ | omega | (simp; done) | (simp; omega)) | ((with_reducible refine nV ?_); simp [bP, oO, jX, ny, AC.toD, dV, dh, dH, dU, Value.oneCell', mM, iE, mV, mQ, kT, gW, kW, kV, yI, yJ, fV, fU, hne, hb', qN hlen, AB hlen]; first | done | rfl))
      exact aS ⟨_, rfl, by rw [Tn hb, ← ho]; rfl, trivial⟩
    · have hb' : decide (n < 0) = false := decide_eq_false hb
      repeat' (first | (with_reducible first | refine kN ?_ | refine iK ?_ | refine jG ?_ | refine jH ?_ | refine kP ?_ | refine rP ?_ | refine jv ?_ | refine kK ?_ | refine fG ?_ | refine iH ?_ | refine jF ?_ | refine iD ?_ | refine jC ?_ | refine iM ?_ | refine jB ?_) | ((with_reducible refine iG ?_ ?_); rfl) | ((with_reducible refine iI ?_ ?_); rfl) | ((with_reducible refine iJ ?_ ?_); rfl) | (with_reducible (refine jI rfl ?_ ?_); all_goals (intro hb; have hb' := hb; (try simp only [pkC] at hb'); first | (exfalso; omega) | skip)) | ((with_reducible refine aG ?_); intro K hK) | ((with_reducible refine hK _ ?_); clear hK K) | (with_reducible refine ak ?_ ?_) | ((with_reducible refine aH ?_); simp (disch := first | decide | omega) only [↓pkS, pkW, pkA, undef, List.flatMap_cons, List.flatMap_nil, List.append_nil, jT, oW, lvD, rF, lcD, lvK, lcK, eF, dS, jh, ex, St.put, St.ev, kav, gdA, opI, fH, rW, jL, oD, rQ, AV.toD, AC.toD, AV.nw, AC.nw, AC.one, Value.oneCell', dV, dh, dH, dU, gJ, fJ, if_true, if_false, Bool.false_eq_true, jR, D.one, D.ones, D.sz, D.szs, Nat.reduceAdd, Nat.reduceSub, Nat.reduceLeDiff, Nat.reduceEqDiff, reduceIte, pkN, fV, fU, hne, hb', qN hlen, AB hlen]) | (first | (with_reducible rfl) | (with_reducible refine mX ?_; kernel_rfl) | exact jr _ | exact jW _ | exact el_ln _ | exact el_tk _ _ | exact el_td _ _ _ | omega | (simp; done) | (simp; omega)) | ((with_reducible refine nV ?_); simp [bP, oO, jX, ny, AC.toD, dV, dh, dH, dU, Value.oneCell', mM, iE, mV, mQ, kT, gW, kW, kV, yI, yJ, fV, fU, hne, hb', qN hlen, AB hlen]; first | done | rfl))
      exact aS ⟨_, rfl, by rw [JQ (by omega), ← ho]; rfl, trivial⟩
  · have hneq : (m != 0) = true := by simp [hm]
    have hd0 : (n.natAbs : Int) = 0 ∨ True := Or.inr trivial
    have hdv := Hr m
    have hsg := Hq m
    have hmo : m.tmod 10 = m - 10 * m.tdiv 10 := by have := Int.tmod_add_mul_tdiv m 10; omega
    have hw1 : IntKind.i64.wrap (m.tdiv 10) = m.tdiv 10 := jq (by omega) (by omega)
    have hlen := hv.len (by omega)
    have hg := hv.go hm
    by_cases hs : m.tmod 10 < 0
    · have hs' : decide (m.tmod 10 < 0) = true := decide_eq_true hs
      have hw2 : IntKind.i64.wrap (0 - m.tmod 10) = ((m.natAbs % 10 : Nat) : Int) := by rw [jq (by omega) (by omega)]; omega
      have hw3 : IntKind.i64.wrap (48 + ((m.natAbs % 10 : Nat) : Int)) = 48 + ((m.natAbs % 10 : Nat) : Int) := jq (by omega) (by omega)
      have hw4 : IntKind.u8.wrap (48 + ((m.natAbs % 10 : Nat) : Int)) = 48 + ((m.natAbs % 10 : Nat) : Int) := MJ (by omega) (by omega)
      have hw5 : (48 + ((m.natAbs % 10 : Nat) : Int)).toNat = 48 + m.natAbs % 10 := by omega
      repeat' (first | (with_reducible first | refine kN ?_ | refine iK ?_ | refine jG ?_ | refine jH ?_ | refine kP ?_ | refine rP ?_ | refine jv ?_ | refine kK ?_ | refine fG ?_ | refine iH ?_ | refine jF ?_ | refine iD ?_ | refine jC ?_ | refine iM ?_ | refine jB ?_) | ((with_reducible refine iG ?_ ?_); rfl) | ((with_reducible refine iI ?_ ?_); rfl) | ((with_reducible refine iJ ?_ ?_); rfl) | (with_reducible (refine jI rfl ?_ ?_); all_goals (intro hb; have hb' := hb; (try simp only [pkC] at hb'); first | (exfalso; omega) | skip)) | ((with_reducible refine aG ?_); intro K hK) | ((with_reducible refine hK _ ?_); clear hK K) | (with_reducible refine ak ?_ ?_) | ((with_reducible refine aH ?_); simp (disch := first | decide | omega) only [↓pkS, pkW, pkA, undef, List.flatMap_cons, List.flatMap_nil, List.append_nil, jT, oW, lvD, rF, lcD, lvK, lcK, eF, dS, jh, ex, St.put, St.ev, kav, gdA, opI, fH, rW, jL, oD, rQ, AV.toD, AC.toD, AV.nw, AC.nw, AC.one, Value.oneCell', dV, dh, dH, dU, gJ, fJ, if_true, if_false, Bool.false_eq_true, jR, D.one, D.ones, D.sz, D.szs, Nat.reduceAdd, Nat.reduceSub, Nat.reduceLeDiff, Nat.reduceEqDiff, reduceIte, pkN, fV, fU, UN, hneq, hs', hw1, hw2, hw3, hw4, hw5, jP, qN hlen]) | (first | (with_reducible rfl) | (with_reducible refine mX ?_; kernel_rfl) | exact jr _ | exact jW _ | exact el_ln _ | exact el_tk _ _ | exact el_td _ _ _ | omega | (simp; done) | (simp; omega)) | ((with_reducible refine nV ?_); simp [bP, oO, jX, ny, AC.toD, dV, dh, dH, dU, Value.oneCell', mM, iE, mV, mQ, kT, gW, kW, kV, yI, yJ, fV, fU, UN, hneq, hs', hw1, hw2, hw3, hw4, hw5, jP, qN hlen]; first | done | rfl))
      refine iZ (m.tdiv 10, UInt8.ofNat (48 + m.natAbs % 10) :: o) ?_ hg (show (m.tdiv 10).natAbs < m.natAbs by omega)
      simp [gu, je, gX, gZ, AV.fits, AC.fits, FB, fF, Us]
    · have hs' : decide (m.tmod 10 < 0) = false := decide_eq_false hs
      have hw2 : m.tmod 10 = ((m.natAbs % 10 : Nat) : Int) := by omega
      have hw3 : IntKind.i64.wrap (48 + ((m.natAbs % 10 : Nat) : Int)) = 48 + ((m.natAbs % 10 : Nat) : Int) := jq (by omega) (by omega)
      have hw4 : IntKind.u8.wrap (48 + ((m.natAbs % 10 : Nat) : Int)) = 48 + ((m.natAbs % 10 : Nat) : Int) := MJ (by omega) (by omega)
      have hw5 : (48 + ((m.natAbs % 10 : Nat) : Int)).toNat = 48 + m.natAbs % 10 := by omega
      repeat' (first | (with_reducible first | refine kN ?_ | refine iK ?_ | refine jG ?_ | refine jH ?_ | refine kP ?_ | refine rP ?_ | refine jv ?_ | refine kK ?_ | refine fG ?_ | refine iH ?_ | refine jF ?_ | refine iD ?_ | refine jC ?_ | refine iM ?_ | refine jB ?_) | ((with_reducible refine iG ?_ ?_); rfl) | ((with_reducible refine iI ?_ ?_); rfl) | ((with_reducible refine iJ ?_ ?_); rfl) | (with_reducible (refine jI rfl ?_ ?_); all_goals (intro hb; have hb' := hb; (try simp only [pkC] at hb'); first | (exfalso; omega) | skip)) | ((with_reducible refine aG ?_); intro K hK) | ((with_reducible refine hK _ ?_); clear hK K) | (with_reducible refine ak ?_ ?_) | ((with_reducible refine aH ?_); simp (disch := first | decide | omega) only [↓pkS, pkW, pkA, undef, List.flatMap_cons, List.flatMap_nil, List.append_nil, jT, oW, lvD, rF, lcD, lvK, lcK, eF, dS, jh, ex, St.put, St.ev, kav, gdA, opI, fH, rW, jL, oD, rQ, AV.toD, AC.toD, AV.nw, AC.nw, AC.one, Value.oneCell', dV, dh, dH, dU, gJ, fJ, if_true, if_false, Bool.false_eq_true, jR, D.one, D.ones, D.sz, D.szs, Nat.reduceAdd, Nat.reduceSub, Nat.reduceLeDiff, Nat.reduceEqDiff, reduceIte, pkN, fV, fU, UN, hneq, hs', hw1, hw2, hw3, hw4, hw5, jP, qN hlen]) | (first | (with_reducible rfl) | (with_reducible refine mX ?_; kernel_rfl) | exact jr _ | exact jW _ | exact el_ln _ | exact el_tk _ _ | exact el_td _ _ _ | omega | (simp; done) | (simp; omega)) | ((with_reducible refine nV ?_); simp [bP, oO, jX, ny, AC.toD, dV, dh, dH, dU, Value.oneCell', mM, iE, mV, mQ, kT, gW, kW, kV, yI, yJ, fV, fU, UN, hneq, hs', hw1, hw2, hw3, hw4, hw5, jP, qN hlen]; first | done | rfl))
      refine iZ (m.tdiv 10, UInt8.ofNat (48 + m.natAbs % 10) :: o) ?_ hg (show (m.tdiv 10).natAbs < m.natAbs by omega)
      simp [gu, je, gX, gZ, AV.fits, AC.fits, FB, fF, Us]
theorem l9 {α : Type} {f : α → D} {l : List α} {k : Nat} (h : k < l.length) : (l.map f)[k]? = some (f l[k]) := by rw [List.getElem?_map, List.getElem?_eq_getElem h]; rfl
def qJ (l : List ByteArray) (b : ByteArray) : Nat → List UInt8
  | 0 => []
  | k + 1 => qJ l b k ++ ((if 0 < k then b.data.toList else []) ++ (l.getD k ⟨#[]⟩).data.toList)
def IU (l : List ByteArray) (b : ByteArray) : ByteArray := ⟨(qJ l b l.length).toArray⟩
theorem IQ (l : List ByteArray) (b : ByteArray) : ∀ {k n : Nat}, k ≤ n → (qJ l b k).length ≤ (qJ l b n).length
  | k, 0, h => by
    obtain rfl : k = 0 := by omega
    exact Nat.le_refl _
  | k, n + 1, h => by
    by_cases hk : k = n + 1
    · subst hk; exact Nat.le_refl _
    · have := IQ l b (k := k) (n := n) (by omega)
      simp only [qJ, List.length_append]
      omega
theorem BF {l : List ByteArray} {b : ByteArray} {k : Nat} (h : k < l.length) : qJ l b (k + 1) = qJ l b k ++ ((if 0 < k then b.data.toList else []) ++ l[k].data.toList) := by
  simp [qJ, List.getD_eq_getElem?_getD, h]
theorem OB (s : ByteArray) : s.data.toList.length = s.size := by simp
def xB : IC := (.seq (.reg false [⟨(some 4), none, .mov (.k (.string ⟨#[]⟩))⟩]) (.seq (.reg false [⟨(some 7), none, .brow true 5 1 0 false []⟩, ⟨(some 5), none, .mov (.t 7)⟩]) (.seq (.seq (.reg false [⟨(some 6), none, .mov (.k (.int .i64 0))⟩]) (.block 0 (.loop (.seq (.seq (.reg false [⟨(some 8), none, .mov (.t 6)⟩, ⟨(some 9), none, .mov (.t 0)⟩, ⟨(some 10), none, .len false (.t 9)⟩, ⟨(some 11), none, .bin .lss (.t 8) (.t 10)⟩]) (.cond (.t 11) .skip (.exit 0))) (.seq (.block 1 (.seq (.seq (.reg false [⟨(some 14), none, .mov (.t 6)⟩, ⟨(some 15), none, .bin .gtr (.t 14) (.k (.int .i64 0))⟩]) (.cond (.t 15) (.reg false [⟨(some 16), none, .mov (.t 5)⟩, ⟨(some 17), none, .mov (.t 1)⟩, ⟨(some 18), none, .apps 5 (.t 16) (.t 17)⟩, ⟨(some 5), none, .mov (.t 18)⟩]) .skip)) (.reg false [⟨(some 19), none, .mov (.t 5)⟩, ⟨(some 20), none, .mov (.t 0)⟩, ⟨(some 21), none, .mov (.t 6)⟩, ⟨(some 22), none, .iad 1 (.t 20) (.t 21)⟩, ⟨(some 23), none, .load 1 false (.t 22)⟩, ⟨(some 24), none, .apps 5 (.t 19) (.t 23)⟩, ⟨(some 5), none, .mov (.t 24)⟩]))) (.reg false [⟨(some 12), none, .mov (.t 6)⟩, ⟨(some 13), none, .bin .add (.t 12) (.k (.int .i64 1))⟩, ⟨(some 6), none, .mov (.t 13)⟩])))))) (.seq (.reg false [⟨(some 25), none, .mov (.t 5)⟩, ⟨(some 26), none, .cvs (.t 25)⟩, ⟨(some 4), none, .mov (.t 26)⟩]) .ret))))
theorem Ae : aF Try.prog (Try.f69.body.getD .skip) = some xB := by kernel_rfl
set_option maxHeartbeats 8000000 in
theorem xg (l : List ByteArray) (b : ByteArray) (hb : (qJ l b l.length).length ≤ 1073741824) (hn : l.length ≤ 4194304) : aK Try.prog 69 [.sl (l.map ls), ls b] (.c false [.raw (.string (IU l b))]) := by
  refine fZ (fn := Try.f69) (t := 4) (by kernel_rfl) (by kernel_rfl) (by kernel_rfl) Ae ?_
  unfold xB
  change AWP _ _ _ (st0 27 _)
  simp only [undef, stS, st0, stN, D.av, D.avN, kT, gW, kW, kV, lJ, pW, fV, fU, GCell.bH, GCell.bf, GCell.bV, List.map_cons, List.map_nil, List.replicate, List.cons_append, List.nil_append, List.length_cons, List.length_nil, Nat.reduceAdd, Nat.reduceSub]
  repeat' (first | (with_reducible first | refine kN ?_ | refine iK ?_ | refine jG ?_ | refine jH ?_ | refine kP ?_ | refine rP ?_ | refine jv ?_ | refine kK ?_ | refine fG ?_ | refine iH ?_ | refine jF ?_ | refine iD ?_ | refine jC ?_ | refine iM ?_ | refine jB ?_) | ((with_reducible refine iG ?_ ?_); rfl) | ((with_reducible refine iI ?_ ?_); rfl) | ((with_reducible refine iJ ?_ ?_); rfl) | (with_reducible (refine jI rfl ?_ ?_); all_goals (intro hb; have hb' := hb; (try simp only [pkC] at hb'); first | (exfalso; omega) | skip)) | ((with_reducible refine aG ?_); intro K hK) | ((with_reducible refine hK _ ?_); clear hK K) | (with_reducible refine ak ?_ ?_) | ((with_reducible refine aH ?_); simp (disch := first | decide | omega) only [↓pkS, pkW, pkA, undef, List.flatMap_cons, List.flatMap_nil, List.append_nil, jT, oW, lvD, rF, lcD, lvK, lcK, eF, dS, jh, ex, St.put, St.ev, kav, gdA, opI, fH, rW, jL, oD, rQ, AV.toD, AC.toD, AV.nw, AC.nw, AC.one, Value.oneCell', dV, dh, dH, dU, gJ, fJ, if_true, if_false, Bool.false_eq_true, jR, D.one, D.ones, D.sz, D.szs, Nat.reduceAdd, Nat.reduceSub, Nat.reduceLeDiff, Nat.reduceEqDiff, reduceIte, pkN, fV, fU, lJ, GCell.bH, GCell.bf, GCell.bV, l9]) | (first | (with_reducible rfl) | (with_reducible refine mX ?_; kernel_rfl) | exact jr _ | exact jW _ | exact el_ln _ | exact el_tk _ _ | exact el_td _ _ _ | omega | (simp; done) | (simp; omega)) | ((with_reducible refine nV ?_); simp [bP, oO, jX, ny, AC.toD, dV, dh, dH, dU, Value.oneCell', mM, iE, mV, mQ, kT, gW, kW, kV, yI, yJ, fV, fU, lJ, GCell.bH, GCell.bf, GCell.bV, l9]; first | done | rfl))
  refine kQ (X := Nat × Nat) (fun q => [.k, .k, .d, .d, .d, .v (.c false [.own 0 q.2]), .v (.c false [.raw (.int .i64 (q.1 : Nat))]), .d, .d, .d, .d, .d, .d, .d, .d, .d, .d, .d, .d, .d, .d, .d, .d, .d, .d, .d, .d]) (fun q => [⟨(qJ l b q.1).map lu8, 5, 1, q.2, true⟩]) (fun q bs => []) (fun q => q.1 ≤ l.length) (fun q => l.length - q.1) (0, 0) (Nat.zero_le _) ?_ ?_
  · simp [gu, je, gX, gZ, AV.fits, AC.fits, FB, fF, qJ]
  rintro ⟨k, v⟩ hk
  have hk : k ≤ l.length := hk
  simp only [FB, fF]
  by_cases hlt : k < l.length
  · have hm := IQ l b (show k + 1 ≤ l.length by omega)
    have hs := BF (b := b) hlt
    have hsl := congrArg List.length hs
    by_cases h0 : 0 < k
    · have h0' : decide ((k : Int) > 0) = true := decide_eq_true (by omega)
      rw [if_pos h0] at hs hsl
      simp only [List.length_append, OB] at hsl
      repeat' (first | (with_reducible first | refine kN ?_ | refine iK ?_ | refine jG ?_ | refine jH ?_ | refine kP ?_ | refine rP ?_ | refine jv ?_ | refine kK ?_ | refine fG ?_ | refine iH ?_ | refine jF ?_ | refine iD ?_ | refine jC ?_ | refine iM ?_ | refine jB ?_) | ((with_reducible refine iG ?_ ?_); rfl) | ((with_reducible refine iI ?_ ?_); rfl) | ((with_reducible refine iJ ?_ ?_); rfl) | (with_reducible (refine jI rfl ?_ ?_); all_goals (intro hb; have hb' := hb; (try simp only [pkC] at hb'); first | (exfalso; omega) | skip)) | ((with_reducible refine aG ?_); intro K hK) | ((with_reducible refine hK _ ?_); clear hK K) | (with_reducible refine ak ?_ ?_) | ((with_reducible refine aH ?_); simp (disch := first | decide | omega) only [↓pkS, pkW, pkA, undef, List.flatMap_cons, List.flatMap_nil, List.append_nil, jT, oW, lvD, rF, lcD, lvK, lcK, eF, dS, jh, ex, St.put, St.ev, kav, gdA, opI, fH, rW, jL, oD, rQ, AV.toD, AC.toD, AV.nw, AC.nw, AC.one, Value.oneCell', dV, dh, dH, dU, gJ, fJ, if_true, if_false, Bool.false_eq_true, jR, D.one, D.ones, D.sz, D.szs, Nat.reduceAdd, Nat.reduceSub, Nat.reduceLeDiff, Nat.reduceEqDiff, reduceIte, pkN, fV, fU, lJ, GCell.bH, GCell.bf, GCell.bV, l9, h0', tH, List.length_append, List.length_map]) | (first | (with_reducible rfl) | (with_reducible refine mX ?_; kernel_rfl) | exact jr _ | exact jW _ | exact el_ln _ | exact el_tk _ _ | exact el_td _ _ _ | omega | (simp; done) | (simp; omega)) | ((with_reducible refine nV ?_); simp [bP, oO, jX, ny, AC.toD, dV, dh, dH, dU, Value.oneCell', mM, iE, mV, mQ, kT, gW, kW, kV, yI, yJ, fV, fU, lJ, GCell.bH, GCell.bf, GCell.bV, l9, h0', tH, List.length_append, List.length_map]; first | done | rfl))
      refine iZ (k + 1, v + 2) ?_ (show k + 1 ≤ l.length by omega) (show l.length - (k + 1) < l.length - k by omega)
      simp [gu, je, gX, gZ, AV.fits, AC.fits, FB, fF, hs, A8]
    · have h0' : decide ((k : Int) > 0) = false := decide_eq_false (by omega)
      rw [if_neg h0] at hs hsl
      simp only [List.length_append, OB, List.length_nil] at hsl
      repeat' (first | (with_reducible first | refine kN ?_ | refine iK ?_ | refine jG ?_ | refine jH ?_ | refine kP ?_ | refine rP ?_ | refine jv ?_ | refine kK ?_ | refine fG ?_ | refine iH ?_ | refine jF ?_ | refine iD ?_ | refine jC ?_ | refine iM ?_ | refine jB ?_) | ((with_reducible refine iG ?_ ?_); rfl) | ((with_reducible refine iI ?_ ?_); rfl) | ((with_reducible refine iJ ?_ ?_); rfl) | (with_reducible (refine jI rfl ?_ ?_); all_goals (intro hb; have hb' := hb; (try simp only [pkC] at hb'); first | (exfalso; omega) | skip)) | ((with_reducible refine aG ?_); intro K hK) | ((with_reducible refine hK _ ?_); clear hK K) | (with_reducible refine ak ?_ ?_) | ((with_reducible refine aH ?_); simp (disch := first | decide | omega) only [↓pkS, pkW, pkA, undef, List.flatMap_cons, List.flatMap_nil, List.append_nil, jT, oW, lvD, rF, lcD, lvK, lcK, eF, dS, jh, ex, St.put, St.ev, kav, gdA, opI, fH, rW, jL, oD, rQ, AV.toD, AC.toD, AV.nw, AC.nw, AC.one, Value.oneCell', dV, dh, dH, dU, gJ, fJ, if_true, if_false, Bool.false_eq_true, jR, D.one, D.ones, D.sz, D.szs, Nat.reduceAdd, Nat.reduceSub, Nat.reduceLeDiff, Nat.reduceEqDiff, reduceIte, pkN, fV, fU, lJ, GCell.bH, GCell.bf, GCell.bV, l9, h0', tH, List.length_append, List.length_map]) | (first | (with_reducible rfl) | (with_reducible refine mX ?_; kernel_rfl) | exact jr _ | exact jW _ | exact el_ln _ | exact el_tk _ _ | exact el_td _ _ _ | omega | (simp; done) | (simp; omega)) | ((with_reducible refine nV ?_); simp [bP, oO, jX, ny, AC.toD, dV, dh, dH, dU, Value.oneCell', mM, iE, mV, mQ, kT, gW, kW, kV, yI, yJ, fV, fU, lJ, GCell.bH, GCell.bf, GCell.bV, l9, h0', tH, List.length_append, List.length_map]; first | done | rfl))
      refine iZ (k + 1, v + 1) ?_ (show k + 1 ≤ l.length by omega) (show l.length - (k + 1) < l.length - k by omega)
      simp [gu, je, gX, gZ, AV.fits, AC.fits, FB, fF, hs, A8]
  obtain rfl : k = l.length := by omega
  repeat' (first | (with_reducible first | refine kN ?_ | refine iK ?_ | refine jG ?_ | refine jH ?_ | refine kP ?_ | refine rP ?_ | refine jv ?_ | refine kK ?_ | refine fG ?_ | refine iH ?_ | refine jF ?_ | refine iD ?_ | refine jC ?_ | refine iM ?_ | refine jB ?_) | ((with_reducible refine iG ?_ ?_); rfl) | ((with_reducible refine iI ?_ ?_); rfl) | ((with_reducible refine iJ ?_ ?_); rfl) | (with_reducible (refine jI rfl ?_ ?_); all_goals (intro hb; have hb' := hb; (try simp only [pkC] at hb'); first | (exfalso; omega) | skip)) | ((with_reducible refine aG ?_); intro K hK) | ((with_reducible refine hK _ ?_); clear hK K) | (with_reducible refine ak ?_ ?_) | ((with_reducible refine aH ?_); simp (disch := first | decide | omega) only [↓pkS, pkW, pkA, undef, List.flatMap_cons, List.flatMap_nil, List.append_nil, jT, oW, lvD, rF, lcD, lvK, lcK, eF, dS, jh, ex, St.put, St.ev, kav, gdA, opI, fH, rW, jL, oD, rQ, AV.toD, AC.toD, AV.nw, AC.nw, AC.one, Value.oneCell', dV, dh, dH, dU, gJ, fJ, if_true, if_false, Bool.false_eq_true, jR, D.one, D.ones, D.sz, D.szs, Nat.reduceAdd, Nat.reduceSub, Nat.reduceLeDiff, Nat.reduceEqDiff, reduceIte, pkN, fV, fU, lJ, GCell.bH, GCell.bf, GCell.bV, l9, wI]) | (first | (with_reducible rfl) | (with_reducible refine mX ?_; kernel_rfl) | exact jr _ | exact jW _ | exact el_ln _ | exact el_tk _ _ | exact el_td _ _ _ | omega | (simp; done) | (simp; omega)) | ((with_reducible refine nV ?_); simp [bP, oO, jX, ny, AC.toD, dV, dh, dH, dU, Value.oneCell', mM, iE, mV, mQ, kT, gW, kW, kV, yI, yJ, fV, fU, lJ, GCell.bH, GCell.bf, GCell.bV, l9, wI]; first | done | rfl))
  exact aS ⟨_, rfl, rfl, trivial⟩
theorem tns : Int.toNat 1 = 1 ∧ Int.toNat 2 = 2 ∧ Int.toNat 3 = 3 ∧ Int.toNat 4 = 4 ∧ Int.toNat 5 = 5 := ⟨rfl, rfl, rfl, rfl, rfl⟩
theorem jm {n : Nat} (h : n ≤ 9223372036854775807) : (((n : Nat) : Int) > IntKind.i64.max) = False := by
  have e3 : IntKind.i64.max = 9223372036854775807 := by decide
  rw [e3]
  simp
  omega
theorem jE {a b : Nat} (h : a + b ≤ 9223372036854775807) : ((9223372036854775807 : Int) < (a : Int) + (b : Int)) = False := by
  simp
  omega
def bsz : List ByteArray → Nat
  | [] => 0
  | s :: l => s.size + bsz l
theorem AL : ∀ (a b : List ByteArray), bsz (a ++ b) = bsz a + bsz b
  | [], b => by simp [bsz]
  | s :: a, b => by simp only [List.cons_append, bsz]; rw [AL a b, Nat.add_assoc]
theorem uV (l : List ByteArray) (b : ByteArray) : ∀ k, k ≤ l.length → (qJ l b k).length ≤ bsz (l.take k) + k * b.size
  | 0, _ => by simp [qJ]
  | k + 1, h => by
    have ih := uV l b k (by omega)
    rw [BF (by omega), List.length_append, List.length_append, List.take_succ_eq_append_getElem (by omega), AL, Nat.succ_mul]
    have h1 : (if 0 < k then b.data.toList else []).length ≤ b.size := by split <;> simp
    have h2 : (l[k]).data.toList.length = (l[k]).size := by simp
    have h3 : bsz [l[k]] = (l[k]).size := by simp [bsz]
    omega
theorem Et (l : List ByteArray) (b : ByteArray) : (IU l b).size ≤ bsz l + l.length * b.size := by
  have := uV l b l.length (Nat.le_refl _)
  rw [List.take_length] at this
  have h2 : (IU l b).size = (qJ l b l.length).length := by simp [IU, ByteArray.size]
  rw [h2]
  exact this
theorem iT {P : Program} {t : Nat} {v : Value} {st : St} {post : AV → List Own → Prop} (h1 : st.fr.getD t .any = .c false [.raw v]) (hp : dY P (.tmp t) false 1 = true) (hq : post (.c false [.raw v]) []) : kH (WE P (.tmp t) post) .ret st :=
  ⟨false, _, [], [], hq, by simp [AC.out], by simp, trivial, hp, _, h1, by simp [qw, G7]⟩
def iR (e : GExpr) : Nat := 32 + 40 * e.toD.wt
def fD : List GExpr → Nat
  | [] => 0
  | e :: l => iR e + fD l
theorem CO : ∀ (a b : List GExpr), fD (a ++ b) = fD a + fD b
  | [], b => by simp [fD]
  | s :: a, b => by simp only [List.cons_append, fD]; rw [CO a b, Nat.add_assoc]
theorem EI : ∀ (l : List GExpr), fD l = 32 * l.length + 40 * D.wts (l.map GExpr.toD)
  | [] => by simp [fD, D.wts]
  | e :: l => by rw [fD, EI l, List.map_cons, D.wts, List.length_cons, iR]; omega
theorem Tq (e : GExpr) : iR e = 32 + 40 * e.text.size + 8 * e.args.length + fD e.args := by
  rw [EI, iR, GExpr.oL e, List.length_map]; omega
theorem UE {e y : GExpr} (h : e.allN = true) (hy : y ∈ e.args) : y.allN = true := by
  rw [AQ, Bool.and_eq_true, List.all_eq_true] at h
  exact h.1 y hy
theorem Qi {e : GExpr} (h : e.allN = true) : jk e = true := by
  rw [AQ, Bool.and_eq_true] at h
  exact h.2
theorem Lh {e : GExpr} (h : jk e = true) : (e.kind = 1 ∧ 0 ≤ e.n ∧ e.n ≤ 1000000000) ∨ e.kind = 2 ∨ e.kind = 3 ∨ e.kind = 4 ∨ e.kind = 5 ∨ (e.kind = 6 ∧ e.args.length = 2 ∧ 1 ≤ e.n ∧ e.n ≤ 5) ∨ (e.kind = 7 ∧ e.args.length = 2) ∨ (e.kind = 8 ∧ e.args.length = 3) ∨ (e.kind = 9 ∧ e.args.length = 2) := by
  unfold jk at h
  repeat' split at h
  all_goals first
    | (simp [inR] at h; omega)
    | omega
    | (simp at h)
def Jl : IC := (.seq (.reg false [⟨(some 1), none, .box (.t 0)⟩, ⟨(some 2), none, .mov (.k (.int .i64 0))⟩]) (.seq (.seq (.reg false [⟨(some 3), none, .fad 0 (.t 1)⟩, ⟨(some 4), none, .load 1 false (.t 3)⟩]) (.block 0 (.seq (.seq (.reg false [⟨(some 6), none, .bin .eql (.t 4) (.k (.int .i64 7))⟩, ⟨(some 5), none, .mov (.t 6)⟩]) (.cond (.t 5) .skip (.seq (.reg false [⟨(some 7), none, .bin .eql (.t 4) (.k (.int .i64 8))⟩, ⟨(some 5), none, .mov (.t 7)⟩]) (.cond (.t 5) .skip (.reg false [⟨(some 8), none, .bin .eql (.t 4) (.k (.int .i64 9))⟩, ⟨(some 5), none, .mov (.t 8)⟩]))))) (.cond (.t 5) (.seq (.reg false [⟨(some 2), none, .mov (.k (.int .i64 0))⟩]) .ret) (.seq (.reg false [⟨(some 10), none, .bin .eql (.t 4) (.k (.int .i64 6))⟩, ⟨(some 9), none, .mov (.t 10)⟩]) (.cond (.t 9) (.seq (.reg false [⟨(some 11), none, .fad 1 (.t 1)⟩, ⟨(some 12), none, .load 1 false (.t 11)⟩]) (.block 1 (.seq (.seq (.reg false [⟨(some 14), none, .bin .eql (.t 12) (.k (.int .i64 4))⟩, ⟨(some 13), none, .mov (.t 14)⟩]) (.cond (.t 13) .skip (.reg false [⟨(some 15), none, .bin .eql (.t 12) (.k (.int .i64 5))⟩, ⟨(some 13), none, .mov (.t 15)⟩]))) (.cond (.t 13) (.seq (.reg false [⟨(some 2), none, .mov (.k (.int .i64 1))⟩]) .ret) (.seq (.seq (.reg false [⟨(some 17), none, .bin .eql (.t 12) (.k (.int .i64 1))⟩, ⟨(some 16), none, .mov (.t 17)⟩]) (.cond (.t 16) .skip (.reg false [⟨(some 18), none, .bin .eql (.t 12) (.k (.int .i64 2))⟩, ⟨(some 16), none, .mov (.t 18)⟩]))) (.cond (.t 16) (.seq (.reg false [⟨(some 2), none, .mov (.k (.int .i64 2))⟩]) .ret) (.seq (.reg false [⟨(some 20), none, .bin .eql (.t 12) (.k (.int .i64 3))⟩, ⟨(some 19), none, .mov (.t 20)⟩]) (.cond (.t 19) (.seq (.reg false [⟨(some 2), none, .mov (.k (.int .i64 3))⟩]) .ret) .skip)))))))) .skip)))))) (.seq (.reg false [⟨(some 2), none, .mov (.k (.int .i64 4))⟩]) .ret)))
theorem Jk : aF Try.prog (Try.f90.body.getD .skip) = some Jl := by kernel_rfl
set_option maxRecDepth 8000 in
set_option maxHeartbeats 8000000 in
theorem NT (e : GExpr) : fA Try.prog 90 [e.toD] (fun r os' => (∃ n : Int, 0 ≤ n ∧ n ≤ 4 ∧ r = .c false [.raw (.int .i64 n)]) ∧ os' = []) := by
  refine qj (fn := Try.f90) (r := .tmp 2) (by kernel_rfl) (by kernel_rfl) (by kernel_rfl) Jk ?_
  unfold Jl
  change AWP _ _ _ (st0 21 _)
  refine sS trivial ?_
  have kk : ∀ j : Int, (e.kind == j) = decide (e.kind = j) := fun j => by by_cases h : e.kind = j <;> simp [h]
  have nn : ∀ j : Int, (e.n == j) = decide (e.n = j) := fun j => by by_cases h : e.n = j <;> simp [h]
  repeat' (first | ((with_reducible refine aG ?_); intro K hK) | ((with_reducible refine hK _ ?_); clear hK K) | (with_reducible refine ak ?_ ?_) | ((with_reducible refine aH ?_); refine ss trivial ?_) | refine nv ?_ | (with_reducible (refine cS rfl ?_ ?_) <;> (intro hb hb'; first | (exfalso; omega) | skip)) | (exact GExpr.el _) | exact aZ | exact aI)
  all_goals exact iT rfl rfl ⟨⟨_, by decide, by decide, rfl⟩, rfl⟩
def Ew : IC := (.seq (.reg false [⟨(some 2), none, .mov (.k (.string ⟨#[]⟩))⟩]) (.seq (.seq (.reg false [⟨(some 3), none, .mov (.t 0)⟩, ⟨(some 4), none, .call 44 [(.t 3), (.k (.int .i64 1)), (.k (.int .i64 5))]⟩, ⟨(some 5), none, .not (.t 4)⟩]) (.cond (.t 5) (.seq (.reg false [⟨(some 2), none, .mov (.k (.string ⟨#[63]⟩))⟩]) .ret) .skip)) (.seq (.reg false [⟨(some 6), none, .brow true 9 1 6 false [(.k (.string ⟨#[]⟩)), (.k (.string ⟨#[43]⟩)), (.k (.string ⟨#[45]⟩)), (.k (.string ⟨#[42]⟩)), (.k (.string ⟨#[60]⟩)), (.k (.string ⟨#[61, 61]⟩))]⟩, ⟨(some 7), none, .mov (.t 0)⟩, ⟨(some 8), none, .iad 1 (.t 6) (.t 7)⟩, ⟨(some 9), none, .load 1 false (.t 8)⟩, ⟨(some 2), none, .mov (.t 9)⟩]) .ret)))
theorem Gl : aF Try.prog (Try.f92.body.getD .skip) = some Ew := by kernel_rfl
set_option maxRecDepth 8000 in
set_option maxHeartbeats 8000000 in
theorem Ht (n : Int) (h0 : 1 ≤ n) (h1 : n ≤ 5) : fA Try.prog 92 [li n] (fun r os' => (∃ s : ByteArray, s.size ≤ 2 ∧ r = .c false [.raw (.string s)]) ∧ os' = []) := by
  refine qj (fn := Try.f92) (r := .tmp 2) (by kernel_rfl) (by kernel_rfl) (by kernel_rfl) Gl ?_
  unfold Ew
  change AWP _ _ _ (st0 10 _)
  refine sS trivial ?_
  have c1 := uf n 1 5
  have hi : inR n 1 5 = true := by simp [inR, h0, h1]
  rw [hi] at c1
  have hn : n = 1 ∨ n = 2 ∨ n = 3 ∨ n = 4 ∨ n = 5 := by omega
  rcases hn with rfl | rfl | rfl | rfl | rfl
  all_goals (repeat' (first | ((with_reducible refine aG ?_); intro K hK) | ((with_reducible refine hK _ ?_); clear hK K) | (with_reducible refine ak ?_ ?_) | ((with_reducible refine aU ?_); first | refine au (hc := c1) (h := ?_)) | ((with_reducible refine aH ?_); refine ss @tns ?_) | refine nv ?_ | (with_reducible (refine cS rfl ?_ ?_) <;> (intro hb hb'; first | (exfalso; omega) | skip)) | (exact GExpr.el _) | exact aZ | exact aI))
  all_goals first
    | exact jr [⟨#[]⟩, ⟨#[43]⟩, ⟨#[45]⟩, ⟨#[42]⟩, ⟨#[60]⟩, ⟨#[61, 61]⟩]
    | (exact iT rfl rfl ⟨⟨_, by decide, rfl⟩, rfl⟩)
def mF (e : GExpr) : Prop := fA Try.prog 84 [e.toD] (fun r os' => (∃ s : ByteArray, s.size ≤ iR e ∧ r = .c false [.raw (.string s)]) ∧ os' = [])
def SH : IC := (.seq (.reg false [⟨(some 2), none, .box (.t 0)⟩, ⟨(some 4), none, .mov (.k (.string ⟨#[]⟩))⟩]) (.seq (.reg false [⟨(some 6), none, .load 4 true (.t 2)⟩, ⟨(some 7), none, .call 84 [(.t 6)]⟩, ⟨(some 5), none, .mov (.t 7)⟩]) (.seq (.seq (.reg false [⟨(some 8), none, .load 4 true (.t 2)⟩, ⟨(some 9), none, .call 90 [(.t 8)]⟩, ⟨(some 10), none, .mov (.t 1)⟩, ⟨(some 11), none, .bin .lss (.t 9) (.t 10)⟩]) (.cond (.t 11) (.seq (.reg false [⟨(some 12), none, .mov (.t 5)⟩, ⟨(some 13), none, .bin .add (.k (.string ⟨#[40]⟩)) (.t 12)⟩, ⟨(some 14), none, .bin .add (.t 13) (.k (.string ⟨#[41]⟩))⟩, ⟨(some 4), none, .mov (.t 14)⟩]) .ret) .skip)) (.seq (.reg false [⟨(some 15), none, .mov (.t 5)⟩, ⟨(some 4), none, .mov (.t 15)⟩]) .ret))))
theorem Pz : aF Try.prog (Try.f91.body.getD .skip) = some SH := by kernel_rfl
set_option maxRecDepth 8000 in
set_option maxHeartbeats 8000000 in
theorem Oc (e : GExpr) (m : Int) (hw : iR e ≤ 100000000) (hI : mF e) : fA Try.prog 91 [e.toD, li m] (fun r os' => (∃ s : ByteArray, s.size ≤ iR e + 2 ∧ r = .c false [.raw (.string s)]) ∧ os' = []) := by
  refine qj (fn := Try.f91) (r := .tmp 4) (by kernel_rfl) (by kernel_rfl) (by kernel_rfl) Pz ?_
  unfold SH
  change AWP _ _ _ (st0 16 _)
  refine sS trivial ?_
  unfold mF at hI
  repeat' (first | ((with_reducible refine aG ?_); intro K hK) | ((with_reducible refine hK _ ?_); clear hK K) | (with_reducible refine ak ?_ ?_) | ((with_reducible refine aU ?_); first | (refine iw (h := hI) (hK := ?_); rintro _ _ ⟨⟨s, hs, rfl⟩, rfl⟩) | (refine iw (h := (NT e)) (hK := ?_); rintro _ _ ⟨⟨lv, hl0, hl1, rfl⟩, rfl⟩)) | ((with_reducible refine aH ?_); refine ss (XR @jm @jE) ?_) | refine nv ?_ | (with_reducible (refine cS rfl ?_ ?_) <;> (intro hb hb'; first | (exfalso; omega) | skip)) | (exact GExpr.el _) | exact aZ | exact aI)
  all_goals exact iT rfl rfl ⟨⟨_, by first | omega | (simp only [ByteArray.size_append, szD, List.size_toArray, List.length_cons, List.length_nil]; omega), rfl⟩, rfl⟩
def Js : IC := (.seq (.reg false [⟨(some 2), none, .mov (.k (.string ⟨#[]⟩))⟩]) (.seq (.reg false [⟨(some 5), none, .brow true 9 1 0 false []⟩, ⟨(some 3), none, .mov (.t 5)⟩]) (.seq (.seq (.reg false [⟨(some 4), none, .mov (.k (.int .i64 0))⟩]) (.block 0 (.loop (.seq (.seq (.reg false [⟨(some 6), none, .mov (.t 4)⟩, ⟨(some 7), none, .mov (.t 0)⟩, ⟨(some 8), none, .len false (.t 7)⟩, ⟨(some 9), none, .bin .lss (.t 6) (.t 8)⟩]) (.cond (.t 9) .skip (.exit 0))) (.seq (.block 1 (.reg false [⟨(some 12), none, .mov (.t 3)⟩, ⟨(some 13), none, .mov (.t 0)⟩, ⟨(some 14), none, .mov (.t 4)⟩, ⟨(some 15), none, .iad 4 (.t 13) (.t 14)⟩, ⟨(some 16), none, .load 4 true (.t 15)⟩, ⟨(some 17), none, .call 84 [(.t 16)]⟩, ⟨(some 18), none, .brow false 9 1 1 false [(.t 17)]⟩, ⟨(some 19), none, .app 9 1 (.t 12) (.t 18)⟩, ⟨(some 3), none, .mov (.t 19)⟩])) (.reg false [⟨(some 10), none, .mov (.t 4)⟩, ⟨(some 11), none, .bin .add (.t 10) (.k (.int .i64 1))⟩, ⟨(some 4), none, .mov (.t 11)⟩])))))) (.seq (.reg false [⟨(some 20), none, .mov (.t 3)⟩, ⟨(some 21), none, .call 69 [(.t 20), (.k (.string ⟨#[44, 32]⟩))]⟩, ⟨(some 2), none, .mov (.t 21)⟩]) .ret))))
theorem Jr : aF Try.prog (Try.f89.body.getD .skip) = some Js := by kernel_rfl
set_option maxRecDepth 8000 in
set_option maxHeartbeats 8000000 in
theorem Vp (q : List GExpr) (hw : fD q ≤ 100000000) (hq : q.length ≤ 1048576) (hI : ∀ e ∈ q, mF e) : fA Try.prog 89 [.sl (q.map GExpr.toD)] (fun r os' => (∃ s : ByteArray, s.size ≤ fD q + 2 * q.length ∧ r = .c false [.raw (.string s)]) ∧ os' = []) := by
  refine qj (fn := Try.f89) (r := .tmp 2) (by kernel_rfl) (by kernel_rfl) (by kernel_rfl) Jr ?_
  unfold Js
  change AWP _ _ _ (st0 22 _)
  refine sS trivial ?_
  repeat' (first | ((with_reducible refine aG ?_); intro K hK) | ((with_reducible refine hK _ ?_); clear hK K) | (with_reducible refine ak ?_ ?_) | ((with_reducible refine aH ?_); refine ss trivial ?_) | refine nv ?_ | (with_reducible (refine cS rfl ?_ ?_) <;> (intro hb hb'; first | (exfalso; omega) | skip)) | (exact GExpr.el _) | exact aZ | exact aI)
  refine kQ (X := Nat × Nat × List ByteArray) (fun z => [.k, .d, .d, .v (.c false [.own 0 z.2.1]), .v (.c false [.raw (.int .i64 ((z.1 : Nat)))]), .d, .d, .d, .d, .d, .d, .d, .d, .d, .d, .d, .d, .d, .d, .d, .d, .d]) (fun z => [⟨z.2.2.map ls, 9, 1, z.2.1, true⟩]) (fun _ _ => []) (fun z => z.1 ≤ q.length ∧ z.2.2.length = z.1 ∧ bsz z.2.2 ≤ fD (q.take z.1)) (fun z => q.length - z.1) (0, 0, []) ⟨Nat.zero_le _, rfl, Nat.zero_le _⟩ ?_ ?_
  · simp [gu, je, gX, gZ, AV.fits, AC.fits, FB, fF]
  · rintro ⟨k, v, l⟩ ⟨hk, hl, hz⟩
    simp only at hk hl hz
    simp only [FB, fF]
    by_cases hlt : k < q.length
    · have hT : decide ((k : Int) < (q.length : Int)) = true := decide_eq_true (by omega)
      have hw1 : IntKind.i64.wrap ((k : Int) + 1) = ((k + 1 : Nat) : Int) := fE (by omega)
      have hix := dR GExpr.toD q hlt
      have hI1 := hI _ (List.getElem_mem hlt)
      unfold mF at hI1
      have htk : q.take (k + 1) = q.take k ++ [q[k]] := List.take_succ_eq_append_getElem hlt
      repeat' (first | ((with_reducible refine aG ?_); intro K hK) | ((with_reducible refine hK _ ?_); clear hK K) | (with_reducible refine ak ?_ ?_) | ((with_reducible refine aU ?_); first | (refine iw (h := hI1) (hK := ?_); rintro _ _ ⟨⟨s, hs, rfl⟩, rfl⟩)) | ((with_reducible refine aH ?_); refine ss (XR hT (XR hw1 hix)) ?_) | refine nv ?_ | (with_reducible (refine cS rfl ?_ ?_) <;> (intro hb hb'; first | (exfalso; omega) | skip)) | (exact GExpr.el _) | exact aZ | exact aI)
      all_goals first
        | omega
        | (simp only [List.length_map]; omega)
        | (refine iZ (k + 1, v + 1, l ++ [s]) ?_ ⟨by simp only; omega, by simp [hl], by simp only; rw [AL, htk, CO]; simp only [bsz, fD]; omega⟩ (show q.length - (k + 1) < q.length - k by omega)
           simp [gu, je, gX, gZ, AV.fits, AC.fits, FB, fF, ls])
    · have hT : decide ((k : Int) < (q.length : Int)) = false := decide_eq_false (by omega)
      have hkq : q.take k = q := List.take_of_length_le (by omega)
      rw [hkq] at hz
      have hb2 := Et l ⟨#[44, 32]⟩
      have hb3 : (⟨#[44, 32]⟩ : ByteArray).size = 2 := rfl
      rw [hb3] at hb2
      have hJ := xg l ⟨#[44, 32]⟩ (by have := uV l ⟨#[44, 32]⟩ l.length (Nat.le_refl _); rw [List.take_length, hb3] at this; omega) (by omega)
      repeat' (first | ((with_reducible refine aG ?_); intro K hK) | ((with_reducible refine hK _ ?_); clear hK K) | (with_reducible refine ak ?_ ?_) | ((with_reducible refine aU ?_); first | refine au (hc := hJ) (h := ?_)) | ((with_reducible refine aH ?_); refine ss hT ?_) | refine nv ?_ | (with_reducible (refine cS rfl ?_ ?_) <;> (intro hb hb'; first | (exfalso; omega) | skip)) | (exact GExpr.el _) | exact aZ | exact aI)
      exact iT rfl rfl ⟨⟨_, by omega, rfl⟩, rfl⟩
def Jq : IC := (.seq (.reg false [⟨(some 1), none, .box (.t 0)⟩, ⟨(some 2), none, .mov (.k (.string ⟨#[]⟩))⟩]) (.seq (.seq (.reg false [⟨(some 5), none, .fad 0 (.t 1)⟩, ⟨(some 6), none, .load 1 false (.t 5)⟩]) (.block 0 (.seq (.reg false [⟨(some 8), none, .bin .eql (.t 6) (.k (.int .i64 1))⟩, ⟨(some 7), none, .mov (.t 8)⟩]) (.cond (.t 7) (.seq (.reg false [⟨(some 9), none, .fad 1 (.t 1)⟩, ⟨(some 10), none, .load 1 false (.t 9)⟩, ⟨(some 11), none, .call 68 [(.t 10)]⟩, ⟨(some 2), none, .mov (.t 11)⟩]) .ret) (.seq (.reg false [⟨(some 13), none, .bin .eql (.t 6) (.k (.int .i64 2))⟩, ⟨(some 12), none, .mov (.t 13)⟩]) (.cond (.t 12) (.seq (.reg false [⟨(some 14), none, .fad 2 (.t 1)⟩, ⟨(some 15), none, .load 1 false (.t 14)⟩, ⟨(some 16), none, .bin .add (.k (.string ⟨#[34]⟩)) (.t 15)⟩, ⟨(some 17), none, .bin .add (.t 16) (.k (.string ⟨#[34]⟩))⟩, ⟨(some 2), none, .mov (.t 17)⟩]) .ret) (.seq (.reg false [⟨(some 19), none, .bin .eql (.t 6) (.k (.int .i64 3))⟩, ⟨(some 18), none, .mov (.t 19)⟩]) (.cond (.t 18) (.seq (.reg false [⟨(some 20), none, .fad 2 (.t 1)⟩, ⟨(some 21), none, .load 1 false (.t 20)⟩, ⟨(some 2), none, .mov (.t 21)⟩]) .ret) (.seq (.reg false [⟨(some 23), none, .bin .eql (.t 6) (.k (.int .i64 4))⟩, ⟨(some 22), none, .mov (.t 23)⟩]) (.cond (.t 22) (.seq (.reg false [⟨(some 24), none, .fad 3 (.t 1)⟩, ⟨(some 25), none, .load 1 false (.t 24)⟩, ⟨(some 26), none, .call 89 [(.t 25)]⟩, ⟨(some 27), none, .bin .add (.k (.string ⟨#[91]⟩)) (.t 26)⟩, ⟨(some 28), none, .bin .add (.t 27) (.k (.string ⟨#[93]⟩))⟩, ⟨(some 2), none, .mov (.t 28)⟩]) .ret) (.seq (.reg false [⟨(some 30), none, .bin .eql (.t 6) (.k (.int .i64 5))⟩, ⟨(some 29), none, .mov (.t 30)⟩]) (.cond (.t 29) (.seq (.regN true [] [⟨(some 31), none, .fad 2 (.t 1)⟩, ⟨(some 32), none, .load 1 false (.t 31)⟩, ⟨(some 33), none, .bin .add (.t 32) (.k (.string ⟨#[40]⟩))⟩, ⟨(some 34), none, .fad 3 (.t 1)⟩, ⟨(some 35), none, .load 1 false (.t 34)⟩, ⟨(some 36), none, .call 89 [(.t 35)]⟩, ⟨(some 37), none, .bin .add (.t 33) (.t 36)⟩, ⟨(some 38), none, .bin .add (.t 37) (.k (.string ⟨#[41]⟩))⟩, ⟨(some 2), none, .mov (.t 38)⟩]) .ret) (.seq (.reg false [⟨(some 40), none, .bin .eql (.t 6) (.k (.int .i64 7))⟩, ⟨(some 39), none, .mov (.t 40)⟩]) (.cond (.t 39) (.seq (.regN true [] [⟨(some 41), none, .fad 2 (.t 1)⟩, ⟨(some 42), none, .load 1 false (.t 41)⟩, ⟨(some 43), none, .bin .add (.k (.string ⟨#[108, 101, 116, 32]⟩)) (.t 42)⟩, ⟨(some 44), none, .bin .add (.t 43) (.k (.string ⟨#[32, 61, 32]⟩))⟩, ⟨(some 45), none, .fad 3 (.t 1)⟩, ⟨(some 46), none, .load 1 false (.t 45)⟩, ⟨(some 47), none, .iad 4 (.t 46) (.k (.int .i64 0))⟩, ⟨(some 48), none, .load 4 true (.t 47)⟩, ⟨(some 49), none, .call 84 [(.t 48)]⟩, ⟨(some 50), none, .bin .add (.t 44) (.t 49)⟩, ⟨(some 51), none, .bin .add (.t 50) (.k (.string ⟨#[32, 105, 110, 32]⟩))⟩, ⟨(some 52), none, .fad 3 (.t 1)⟩, ⟨(some 53), none, .load 1 false (.t 52)⟩, ⟨(some 54), none, .iad 4 (.t 53) (.k (.int .i64 1))⟩, ⟨(some 55), none, .load 4 true (.t 54)⟩, ⟨(some 56), none, .call 84 [(.t 55)]⟩, ⟨(some 57), none, .bin .add (.t 51) (.t 56)⟩, ⟨(some 2), none, .mov (.t 57)⟩]) .ret) (.seq (.reg false [⟨(some 59), none, .bin .eql (.t 6) (.k (.int .i64 9))⟩, ⟨(some 58), none, .mov (.t 59)⟩]) (.cond (.t 58) (.seq (.regN true [] [⟨(some 60), none, .fad 2 (.t 1)⟩, ⟨(some 61), none, .load 1 false (.t 60)⟩, ⟨(some 62), none, .bin .add (.k (.string ⟨#[102, 111, 114, 32]⟩)) (.t 61)⟩, ⟨(some 63), none, .bin .add (.t 62) (.k (.string ⟨#[32, 105, 110, 32]⟩))⟩, ⟨(some 64), none, .fad 3 (.t 1)⟩, ⟨(some 65), none, .load 1 false (.t 64)⟩, ⟨(some 66), none, .iad 4 (.t 65) (.k (.int .i64 0))⟩, ⟨(some 67), none, .load 4 true (.t 66)⟩, ⟨(some 68), none, .call 84 [(.t 67)]⟩, ⟨(some 69), none, .bin .add (.t 63) (.t 68)⟩, ⟨(some 70), none, .bin .add (.t 69) (.k (.string ⟨#[32, 100, 111, 32]⟩))⟩, ⟨(some 71), none, .fad 3 (.t 1)⟩, ⟨(some 72), none, .load 1 false (.t 71)⟩, ⟨(some 73), none, .iad 4 (.t 72) (.k (.int .i64 1))⟩, ⟨(some 74), none, .load 4 true (.t 73)⟩, ⟨(some 75), none, .call 84 [(.t 74)]⟩, ⟨(some 76), none, .bin .add (.t 70) (.t 75)⟩, ⟨(some 2), none, .mov (.t 76)⟩]) .ret) (.seq (.reg false [⟨(some 78), none, .bin .eql (.t 6) (.k (.int .i64 8))⟩, ⟨(some 77), none, .mov (.t 78)⟩]) (.cond (.t 77) (.seq (.regN true [] [⟨(some 79), none, .fad 3 (.t 1)⟩, ⟨(some 80), none, .load 1 false (.t 79)⟩, ⟨(some 81), none, .iad 4 (.t 80) (.k (.int .i64 0))⟩, ⟨(some 82), none, .load 4 true (.t 81)⟩, ⟨(some 83), none, .call 84 [(.t 82)]⟩, ⟨(some 84), none, .bin .add (.k (.string ⟨#[105, 102, 32]⟩)) (.t 83)⟩, ⟨(some 85), none, .bin .add (.t 84) (.k (.string ⟨#[32, 116, 104, 101, 110, 32]⟩))⟩, ⟨(some 86), none, .fad 3 (.t 1)⟩, ⟨(some 87), none, .load 1 false (.t 86)⟩, ⟨(some 88), none, .iad 4 (.t 87) (.k (.int .i64 1))⟩, ⟨(some 89), none, .load 4 true (.t 88)⟩, ⟨(some 90), none, .call 84 [(.t 89)]⟩, ⟨(some 91), none, .bin .add (.t 85) (.t 90)⟩, ⟨(some 92), none, .bin .add (.t 91) (.k (.string ⟨#[32, 101, 108, 115, 101, 32]⟩))⟩, ⟨(some 93), none, .fad 3 (.t 1)⟩, ⟨(some 94), none, .load 1 false (.t 93)⟩, ⟨(some 95), none, .iad 4 (.t 94) (.k (.int .i64 2))⟩, ⟨(some 96), none, .load 4 true (.t 95)⟩, ⟨(some 97), none, .call 84 [(.t 96)]⟩, ⟨(some 98), none, .bin .add (.t 92) (.t 97)⟩, ⟨(some 2), none, .mov (.t 98)⟩]) .ret) .skip)))))))))))))))))) (.seq (.reg false [⟨(some 99), none, .load 4 true (.t 1)⟩, ⟨(some 100), none, .call 90 [(.t 99)]⟩, ⟨(some 3), none, .mov (.t 100)⟩]) (.seq (.reg false [⟨(some 101), none, .mov (.t 3)⟩, ⟨(some 4), none, .mov (.t 101)⟩]) (.seq (.seq (.reg false [⟨(some 102), none, .mov (.t 3)⟩, ⟨(some 103), none, .bin .eql (.t 102) (.k (.int .i64 1))⟩]) (.cond (.t 103) (.reg false [⟨(some 4), none, .mov (.k (.int .i64 2))⟩]) .skip)) (.seq (.regN true [] [⟨(some 104), none, .fad 3 (.t 1)⟩, ⟨(some 105), none, .load 1 false (.t 104)⟩, ⟨(some 106), none, .iad 4 (.t 105) (.k (.int .i64 0))⟩, ⟨(some 107), none, .load 4 true (.t 106)⟩, ⟨(some 108), none, .mov (.t 4)⟩, ⟨(some 109), none, .call 91 [(.t 107), (.t 108)]⟩, ⟨(some 110), none, .bin .add (.t 109) (.k (.string ⟨#[32]⟩))⟩, ⟨(some 111), none, .fad 1 (.t 1)⟩, ⟨(some 112), none, .load 1 false (.t 111)⟩, ⟨(some 113), none, .call 92 [(.t 112)]⟩, ⟨(some 114), none, .bin .add (.t 110) (.t 113)⟩, ⟨(some 115), none, .bin .add (.t 114) (.k (.string ⟨#[32]⟩))⟩, ⟨(some 116), none, .fad 3 (.t 1)⟩, ⟨(some 117), none, .load 1 false (.t 116)⟩, ⟨(some 118), none, .iad 4 (.t 117) (.k (.int .i64 1))⟩, ⟨(some 119), none, .load 4 true (.t 118)⟩, ⟨(some 120), none, .mov (.t 3)⟩, ⟨(some 121), none, .bin .add (.t 120) (.k (.int .i64 1))⟩, ⟨(some 122), none, .call 91 [(.t 119), (.t 121)]⟩, ⟨(some 123), none, .bin .add (.t 115) (.t 122)⟩, ⟨(some 2), none, .mov (.t 123)⟩]) .ret))))))
theorem Jp : aF Try.prog (Try.f84.body.getD .skip) = some Jq := by kernel_rfl
set_option maxRecDepth 8000 in
set_option maxHeartbeats 16000000 in
theorem Vm (e : GExpr) (hw : e.toD.wt ≤ 1000000) (hn : jk e = true) (hI : ∀ y ∈ e.args, mF y) : fA Try.prog 84 [e.toD] (fun r os' => (∃ s : ByteArray, s.size ≤ iR e ∧ r = .c false [.raw (.string s)]) ∧ os' = []) := by
  refine qj (fn := Try.f84) (r := .tmp 2) (by kernel_rfl) (by kernel_rfl) (by kernel_rfl) Jp ?_
  unfold Jq
  change AWP _ _ _ (st0 124 _)
  refine sS trivial ?_
  have hb := Tq e
  have hlen := Ah e
  have hbs : fD e.args ≤ iR e := by omega
  have hbd : iR e ≤ 100000000 := by unfold iR; omega
  have cl := Vp e.args (by omega) (by omega) hI
  have cs := NT e
  unfold mF at hI
  have kk : ∀ j : Int, (e.kind == j) = decide (e.kind = j) := fun j => by by_cases h : e.kind = j <;> simp [h]
  rcases Lh hn with ⟨k, n0, n1⟩ | k | k | k | k | ⟨k, ha, n0, n1⟩ | ⟨k, ha⟩ | ⟨k, ha⟩ | ⟨k, ha⟩
  · have f1 : (e.kind == 1) = true := by rw [kk]; exact decide_eq_true (by omega)
    have f2 : (e.kind == 2) = false := by rw [kk]; exact decide_eq_false (by omega)
    have f3 : (e.kind == 3) = false := by rw [kk]; exact decide_eq_false (by omega)
    have f4 : (e.kind == 4) = false := by rw [kk]; exact decide_eq_false (by omega)
    have f5 : (e.kind == 5) = false := by rw [kk]; exact decide_eq_false (by omega)
    have f6 : (e.kind == 6) = false := by rw [kk]; exact decide_eq_false (by omega)
    have f7 : (e.kind == 7) = false := by rw [kk]; exact decide_eq_false (by omega)
    have f8 : (e.kind == 8) = false := by rw [kk]; exact decide_eq_false (by omega)
    have f9 : (e.kind == 9) = false := by rw [kk]; exact decide_eq_false (by omega)
    have c1 := qL (n := e.n) (by omega) (by omega)
    have hfl := JR (n := e.n) (by omega) (by omega)
    repeat' (first | ((with_reducible refine hK _ ?_); clear hK K) | (with_reducible refine ak ?_ ?_) | ((with_reducible refine aU ?_); first | refine au (hc := c1) (h := ?_)) | ((with_reducible refine aH ?_); refine ss (XR f1 (XR f2 (XR f3 (XR f4 (XR f5 (XR f6 (XR f7 (XR f8 (XR f9 (XR @jm @jE)))))))))) ?_) | ((with_reducible refine bJ ?_); refine sx (XR f1 (XR f2 (XR f3 (XR f4 (XR f5 (XR f6 (XR f7 (XR f8 (XR f9 (XR @jm @jE)))))))))) ?_) | refine nv ?_ | (refine rD ?_; intro K hK) | (with_reducible (refine cS rfl ?_ ?_) <;> (intro hb hb'; first | (exfalso; omega) | skip)) | (exact GExpr.el _) | exact aZ | exact aI)
    all_goals first
      | omega
      | (simp only [ByteArray.size_append, szD, List.size_toArray, List.length_cons, List.length_nil]; omega)
      | (exact iT rfl rfl ⟨⟨_, by first | omega | (simp only [ByteArray.size_append, szD, List.size_toArray, List.length_cons, List.length_nil]; omega), rfl⟩, rfl⟩)
  · have f1 : (e.kind == 1) = false := by rw [kk]; exact decide_eq_false (by omega)
    have f2 : (e.kind == 2) = true := by rw [kk]; exact decide_eq_true (by omega)
    have f3 : (e.kind == 3) = false := by rw [kk]; exact decide_eq_false (by omega)
    have f4 : (e.kind == 4) = false := by rw [kk]; exact decide_eq_false (by omega)
    have f5 : (e.kind == 5) = false := by rw [kk]; exact decide_eq_false (by omega)
    have f6 : (e.kind == 6) = false := by rw [kk]; exact decide_eq_false (by omega)
    have f7 : (e.kind == 7) = false := by rw [kk]; exact decide_eq_false (by omega)
    have f8 : (e.kind == 8) = false := by rw [kk]; exact decide_eq_false (by omega)
    have f9 : (e.kind == 9) = false := by rw [kk]; exact decide_eq_false (by omega)
    repeat' (first | ((with_reducible refine hK _ ?_); clear hK K) | (with_reducible refine ak ?_ ?_) | ((with_reducible refine aH ?_); refine ss (XR f1 (XR f2 (XR f3 (XR f4 (XR f5 (XR f6 (XR f7 (XR f8 (XR f9 (XR @jm @jE)))))))))) ?_) | ((with_reducible refine bJ ?_); refine sx (XR f1 (XR f2 (XR f3 (XR f4 (XR f5 (XR f6 (XR f7 (XR f8 (XR f9 (XR @jm @jE)))))))))) ?_) | refine nv ?_ | (refine rD ?_; intro K hK) | (with_reducible (refine cS rfl ?_ ?_) <;> (intro hb hb'; first | (exfalso; omega) | skip)) | (exact GExpr.el _) | exact aZ | exact aI)
    all_goals first
      | omega
      | (simp only [ByteArray.size_append, szD, List.size_toArray, List.length_cons, List.length_nil]; omega)
      | (exact iT rfl rfl ⟨⟨_, by first | omega | (simp only [ByteArray.size_append, szD, List.size_toArray, List.length_cons, List.length_nil]; omega), rfl⟩, rfl⟩)
  · have f1 : (e.kind == 1) = false := by rw [kk]; exact decide_eq_false (by omega)
    have f2 : (e.kind == 2) = false := by rw [kk]; exact decide_eq_false (by omega)
    have f3 : (e.kind == 3) = true := by rw [kk]; exact decide_eq_true (by omega)
    have f4 : (e.kind == 4) = false := by rw [kk]; exact decide_eq_false (by omega)
    have f5 : (e.kind == 5) = false := by rw [kk]; exact decide_eq_false (by omega)
    have f6 : (e.kind == 6) = false := by rw [kk]; exact decide_eq_false (by omega)
    have f7 : (e.kind == 7) = false := by rw [kk]; exact decide_eq_false (by omega)
    have f8 : (e.kind == 8) = false := by rw [kk]; exact decide_eq_false (by omega)
    have f9 : (e.kind == 9) = false := by rw [kk]; exact decide_eq_false (by omega)
    repeat' (first | ((with_reducible refine hK _ ?_); clear hK K) | (with_reducible refine ak ?_ ?_) | ((with_reducible refine aH ?_); refine ss (XR f1 (XR f2 (XR f3 (XR f4 (XR f5 (XR f6 (XR f7 (XR f8 (XR f9 (XR @jm @jE)))))))))) ?_) | ((with_reducible refine bJ ?_); refine sx (XR f1 (XR f2 (XR f3 (XR f4 (XR f5 (XR f6 (XR f7 (XR f8 (XR f9 (XR @jm @jE)))))))))) ?_) | refine nv ?_ | (refine rD ?_; intro K hK) | (with_reducible (refine cS rfl ?_ ?_) <;> (intro hb hb'; first | (exfalso; omega) | skip)) | (exact GExpr.el _) | exact aZ | exact aI)
    all_goals first
      | omega
      | (simp only [ByteArray.size_append, szD, List.size_toArray, List.length_cons, List.length_nil]; omega)
      | (exact iT rfl rfl ⟨⟨_, by first | omega | (simp only [ByteArray.size_append, szD, List.size_toArray, List.length_cons, List.length_nil]; omega), rfl⟩, rfl⟩)
  · have f1 : (e.kind == 1) = false := by rw [kk]; exact decide_eq_false (by omega)
    have f2 : (e.kind == 2) = false := by rw [kk]; exact decide_eq_false (by omega)
    have f3 : (e.kind == 3) = false := by rw [kk]; exact decide_eq_false (by omega)
    have f4 : (e.kind == 4) = true := by rw [kk]; exact decide_eq_true (by omega)
    have f5 : (e.kind == 5) = false := by rw [kk]; exact decide_eq_false (by omega)
    have f6 : (e.kind == 6) = false := by rw [kk]; exact decide_eq_false (by omega)
    have f7 : (e.kind == 7) = false := by rw [kk]; exact decide_eq_false (by omega)
    have f8 : (e.kind == 8) = false := by rw [kk]; exact decide_eq_false (by omega)
    have f9 : (e.kind == 9) = false := by rw [kk]; exact decide_eq_false (by omega)
    repeat' (first | ((with_reducible refine hK _ ?_); clear hK K) | (with_reducible refine ak ?_ ?_) | ((with_reducible refine aU ?_); first | (refine iw (h := cl) (hK := ?_); rintro _ _ ⟨⟨ll, hll, rfl⟩, rfl⟩)) | ((with_reducible refine aH ?_); refine ss (XR f1 (XR f2 (XR f3 (XR f4 (XR f5 (XR f6 (XR f7 (XR f8 (XR f9 (XR @jm @jE)))))))))) ?_) | ((with_reducible refine bJ ?_); refine sx (XR f1 (XR f2 (XR f3 (XR f4 (XR f5 (XR f6 (XR f7 (XR f8 (XR f9 (XR @jm @jE)))))))))) ?_) | refine nv ?_ | (refine rD ?_; intro K hK) | (with_reducible (refine cS rfl ?_ ?_) <;> (intro hb hb'; first | (exfalso; omega) | skip)) | (exact GExpr.el _) | exact aZ | exact aI)
    all_goals first
      | omega
      | (simp only [ByteArray.size_append, szD, List.size_toArray, List.length_cons, List.length_nil]; omega)
      | (exact iT rfl rfl ⟨⟨_, by first | omega | (simp only [ByteArray.size_append, szD, List.size_toArray, List.length_cons, List.length_nil]; omega), rfl⟩, rfl⟩)
  · have f1 : (e.kind == 1) = false := by rw [kk]; exact decide_eq_false (by omega)
    have f2 : (e.kind == 2) = false := by rw [kk]; exact decide_eq_false (by omega)
    have f3 : (e.kind == 3) = false := by rw [kk]; exact decide_eq_false (by omega)
    have f4 : (e.kind == 4) = false := by rw [kk]; exact decide_eq_false (by omega)
    have f5 : (e.kind == 5) = true := by rw [kk]; exact decide_eq_true (by omega)
    have f6 : (e.kind == 6) = false := by rw [kk]; exact decide_eq_false (by omega)
    have f7 : (e.kind == 7) = false := by rw [kk]; exact decide_eq_false (by omega)
    have f8 : (e.kind == 8) = false := by rw [kk]; exact decide_eq_false (by omega)
    have f9 : (e.kind == 9) = false := by rw [kk]; exact decide_eq_false (by omega)
    repeat' (first | ((with_reducible refine aG ?_); intro K hK) | ((first | ((with_reducible refine bK false ?_ ?_); rfl) | ((with_reducible refine bK true ?_ ?_); rfl)); intro K hK) | ((first | (with_reducible refine bT 99 false fB ?_) | (refine bT 99 false (by simp [iC, St.ev]) ?_)); intro K hK) | refine nN ?_ | ((with_reducible refine hK _ ?_); clear hK K) | (with_reducible refine ak ?_ ?_) | ((with_reducible refine aU ?_); first | (refine iw (h := cl) (hK := ?_); rintro _ _ ⟨⟨ll, hll, rfl⟩, rfl⟩)) | ((with_reducible refine jy ?_); first | (refine Ba (h := cl) (hne := ⟨_, [], ⟨⟨⟨#[]⟩, Nat.zero_le _, rfl⟩, rfl⟩, rfl⟩) (hr := ?_); rintro _ _ ⟨⟨ll, hll, rfl⟩, rfl⟩)) | ((with_reducible refine aH ?_); refine ss (XR f1 (XR f2 (XR f3 (XR f4 (XR f5 (XR f6 (XR f7 (XR f8 (XR f9 (XR @jm @jE)))))))))) ?_) | ((with_reducible refine bJ ?_); refine sx (XR f1 (XR f2 (XR f3 (XR f4 (XR f5 (XR f6 (XR f7 (XR f8 (XR f9 (XR @jm @jE)))))))))) ?_) | refine nv ?_ | (with_reducible (refine cS rfl ?_ ?_) <;> (intro hb hb'; first | (exfalso; omega) | skip)) | (exact GExpr.el _) | exact aZ | exact aI)
    all_goals first
      | omega
      | (simp only [ByteArray.size_append, szD, List.size_toArray, List.length_cons, List.length_nil]; omega)
      | (exact iT rfl rfl ⟨⟨_, by first | omega | (simp only [ByteArray.size_append, szD, List.size_toArray, List.length_cons, List.length_nil]; omega), rfl⟩, rfl⟩)
  · have f1 : (e.kind == 1) = false := by rw [kk]; exact decide_eq_false (by omega)
    have f2 : (e.kind == 2) = false := by rw [kk]; exact decide_eq_false (by omega)
    have f3 : (e.kind == 3) = false := by rw [kk]; exact decide_eq_false (by omega)
    have f4 : (e.kind == 4) = false := by rw [kk]; exact decide_eq_false (by omega)
    have f5 : (e.kind == 5) = false := by rw [kk]; exact decide_eq_false (by omega)
    have f6 : (e.kind == 6) = true := by rw [kk]; exact decide_eq_true (by omega)
    have f7 : (e.kind == 7) = false := by rw [kk]; exact decide_eq_false (by omega)
    have f8 : (e.kind == 8) = false := by rw [kk]; exact decide_eq_false (by omega)
    have f9 : (e.kind == 9) = false := by rw [kk]; exact decide_eq_false (by omega)
    have h0 : 0 < e.args.length := by omega
    have h1 : 1 < e.args.length := by omega
    have i0 : idx (e.args.map GExpr.toD) (some 0) = some (e.args[0]).toD := dR GExpr.toD e.args h0
    have i1 : idx (e.args.map GExpr.toD) (some 1) = some (e.args[1]).toD := dR GExpr.toD e.args h1
    have hx0 := hI _ (List.getElem_mem h0)
    have hx1 := hI _ (List.getElem_mem h1)
    have hsum : iR e.args[0] + iR e.args[1] ≤ fD e.args := by
      have e1 : e.args = e.args[0] :: e.args[1] :: e.args.drop 2 := by rw [← List.drop_eq_getElem_cons, ← List.drop_eq_getElem_cons]; rfl
      have e2 : fD e.args = iR e.args[0] + (iR e.args[1] + fD (e.args.drop 2)) := by (conv => lhs; rw [e1]); simp only [fD]
      omega
    repeat' (first | ((with_reducible refine aG ?_); intro K hK) | ((first | ((with_reducible refine bK false ?_ ?_); rfl) | ((with_reducible refine bK true ?_ ?_); rfl)); intro K hK) | ((first | (with_reducible refine bT 99 false fB ?_) | (refine bT 99 false (by simp [iC, St.ev]) ?_)); intro K hK) | refine nN ?_ | ((with_reducible refine hK _ ?_); clear hK K) | (with_reducible refine ak ?_ ?_) | ((with_reducible refine aU ?_); first | (refine iw (h := cs) (hK := ?_); rintro _ _ ⟨⟨lv, hl0, hl1, rfl⟩, rfl⟩) | (refine iw (h := (Oc e.args[0] _ (by omega) hx0)) (hK := ?_); rintro _ _ ⟨⟨s0, hs0, rfl⟩, rfl⟩) | (refine iw (h := (Oc e.args[1] _ (by omega) hx1)) (hK := ?_); rintro _ _ ⟨⟨s1, hs1, rfl⟩, rfl⟩) | (refine iw (h := (Ht e.n n0 n1)) (hK := ?_); rintro _ _ ⟨⟨sy, hsy, rfl⟩, rfl⟩)) | ((with_reducible refine jy ?_); first | (refine Ba (h := (Oc e.args[0] _ (by omega) hx0)) (hne := ⟨_, [], ⟨⟨⟨#[]⟩, Nat.zero_le _, rfl⟩, rfl⟩, rfl⟩) (hr := ?_); rintro _ _ ⟨⟨s0, hs0, rfl⟩, rfl⟩) | (refine Ba (h := (Oc e.args[1] _ (by omega) hx1)) (hne := ⟨_, [], ⟨⟨⟨#[]⟩, Nat.zero_le _, rfl⟩, rfl⟩, rfl⟩) (hr := ?_); rintro _ _ ⟨⟨s1, hs1, rfl⟩, rfl⟩) | (refine Ba (h := (Ht e.n n0 n1)) (hne := ⟨_, [], ⟨⟨⟨#[]⟩, Nat.zero_le _, rfl⟩, rfl⟩, rfl⟩) (hr := ?_); rintro _ _ ⟨⟨sy, hsy, rfl⟩, rfl⟩)) | ((with_reducible refine aH ?_); refine ss (XR f1 (XR f2 (XR f3 (XR f4 (XR f5 (XR f6 (XR f7 (XR f8 (XR f9 (XR @jm (XR @jE (XR i0 i1)))))))))))) ?_) | ((with_reducible refine bJ ?_); refine sx (XR f1 (XR f2 (XR f3 (XR f4 (XR f5 (XR f6 (XR f7 (XR f8 (XR f9 (XR @jm (XR @jE (XR i0 i1)))))))))))) ?_) | refine nv ?_ | (with_reducible (refine cS rfl ?_ ?_) <;> (intro hb hb'; first | (exfalso; omega) | skip)) | (exact GExpr.el _) | exact aZ | exact aI)
    all_goals first
      | omega
      | (simp only [ByteArray.size_append, szD, List.size_toArray, List.length_cons, List.length_nil]; omega)
      | (exact iT rfl rfl ⟨⟨_, by first | omega | (simp only [ByteArray.size_append, szD, List.size_toArray, List.length_cons, List.length_nil]; omega), rfl⟩, rfl⟩)
  · have f1 : (e.kind == 1) = false := by rw [kk]; exact decide_eq_false (by omega)
    have f2 : (e.kind == 2) = false := by rw [kk]; exact decide_eq_false (by omega)
    have f3 : (e.kind == 3) = false := by rw [kk]; exact decide_eq_false (by omega)
    have f4 : (e.kind == 4) = false := by rw [kk]; exact decide_eq_false (by omega)
    have f5 : (e.kind == 5) = false := by rw [kk]; exact decide_eq_false (by omega)
    have f6 : (e.kind == 6) = false := by rw [kk]; exact decide_eq_false (by omega)
    have f7 : (e.kind == 7) = true := by rw [kk]; exact decide_eq_true (by omega)
    have f8 : (e.kind == 8) = false := by rw [kk]; exact decide_eq_false (by omega)
    have f9 : (e.kind == 9) = false := by rw [kk]; exact decide_eq_false (by omega)
    have h0 : 0 < e.args.length := by omega
    have h1 : 1 < e.args.length := by omega
    have i0 : idx (e.args.map GExpr.toD) (some 0) = some (e.args[0]).toD := dR GExpr.toD e.args h0
    have i1 : idx (e.args.map GExpr.toD) (some 1) = some (e.args[1]).toD := dR GExpr.toD e.args h1
    have hx0 := hI _ (List.getElem_mem h0)
    have hx1 := hI _ (List.getElem_mem h1)
    have hsum : iR e.args[0] + iR e.args[1] ≤ fD e.args := by
      have e1 : e.args = e.args[0] :: e.args[1] :: e.args.drop 2 := by rw [← List.drop_eq_getElem_cons, ← List.drop_eq_getElem_cons]; rfl
      have e2 : fD e.args = iR e.args[0] + (iR e.args[1] + fD (e.args.drop 2)) := by (conv => lhs; rw [e1]); simp only [fD]
      omega
    repeat' (first | ((with_reducible refine aG ?_); intro K hK) | ((first | ((with_reducible refine bK false ?_ ?_); rfl) | ((with_reducible refine bK true ?_ ?_); rfl)); intro K hK) | ((first | (with_reducible refine bT 99 false fB ?_) | (refine bT 99 false (by simp [iC, St.ev]) ?_)); intro K hK) | refine nN ?_ | ((with_reducible refine hK _ ?_); clear hK K) | (with_reducible refine ak ?_ ?_) | ((with_reducible refine aU ?_); first | (refine iw (h := hx0) (hK := ?_); rintro _ _ ⟨⟨s0, hs0, rfl⟩, rfl⟩) | (refine iw (h := hx1) (hK := ?_); rintro _ _ ⟨⟨s1, hs1, rfl⟩, rfl⟩)) | ((with_reducible refine jy ?_); first | (refine Ba (h := hx0) (hne := ⟨_, [], ⟨⟨⟨#[]⟩, Nat.zero_le _, rfl⟩, rfl⟩, rfl⟩) (hr := ?_); rintro _ _ ⟨⟨s0, hs0, rfl⟩, rfl⟩) | (refine Ba (h := hx1) (hne := ⟨_, [], ⟨⟨⟨#[]⟩, Nat.zero_le _, rfl⟩, rfl⟩, rfl⟩) (hr := ?_); rintro _ _ ⟨⟨s1, hs1, rfl⟩, rfl⟩)) | ((with_reducible refine aH ?_); refine ss (XR f1 (XR f2 (XR f3 (XR f4 (XR f5 (XR f6 (XR f7 (XR f8 (XR f9 (XR @jm (XR @jE (XR i0 i1)))))))))))) ?_) | ((with_reducible refine bJ ?_); refine sx (XR f1 (XR f2 (XR f3 (XR f4 (XR f5 (XR f6 (XR f7 (XR f8 (XR f9 (XR @jm (XR @jE (XR i0 i1)))))))))))) ?_) | refine nv ?_ | (with_reducible (refine cS rfl ?_ ?_) <;> (intro hb hb'; first | (exfalso; omega) | skip)) | (exact GExpr.el _) | exact aZ | exact aI)
    all_goals first
      | omega
      | (simp only [ByteArray.size_append, szD, List.size_toArray, List.length_cons, List.length_nil]; omega)
      | (exact iT rfl rfl ⟨⟨_, by first | omega | (simp only [ByteArray.size_append, szD, List.size_toArray, List.length_cons, List.length_nil]; omega), rfl⟩, rfl⟩)
  · have f1 : (e.kind == 1) = false := by rw [kk]; exact decide_eq_false (by omega)
    have f2 : (e.kind == 2) = false := by rw [kk]; exact decide_eq_false (by omega)
    have f3 : (e.kind == 3) = false := by rw [kk]; exact decide_eq_false (by omega)
    have f4 : (e.kind == 4) = false := by rw [kk]; exact decide_eq_false (by omega)
    have f5 : (e.kind == 5) = false := by rw [kk]; exact decide_eq_false (by omega)
    have f6 : (e.kind == 6) = false := by rw [kk]; exact decide_eq_false (by omega)
    have f7 : (e.kind == 7) = false := by rw [kk]; exact decide_eq_false (by omega)
    have f8 : (e.kind == 8) = true := by rw [kk]; exact decide_eq_true (by omega)
    have f9 : (e.kind == 9) = false := by rw [kk]; exact decide_eq_false (by omega)
    have h0 : 0 < e.args.length := by omega
    have h1 : 1 < e.args.length := by omega
    have i0 : idx (e.args.map GExpr.toD) (some 0) = some (e.args[0]).toD := dR GExpr.toD e.args h0
    have i1 : idx (e.args.map GExpr.toD) (some 1) = some (e.args[1]).toD := dR GExpr.toD e.args h1
    have hx0 := hI _ (List.getElem_mem h0)
    have hx1 := hI _ (List.getElem_mem h1)
    have h2 : 2 < e.args.length := by omega
    have i2 : idx (e.args.map GExpr.toD) (some 2) = some (e.args[2]).toD := dR GExpr.toD e.args h2
    have hx2 := hI _ (List.getElem_mem h2)
    have hsum : iR e.args[0] + iR e.args[1] + iR e.args[2] ≤ fD e.args := by
      have e1 : e.args = e.args[0] :: e.args[1] :: e.args[2] :: e.args.drop 3 := by rw [← List.drop_eq_getElem_cons, ← List.drop_eq_getElem_cons, ← List.drop_eq_getElem_cons]; rfl
      have e2 : fD e.args = iR e.args[0] + (iR e.args[1] + (iR e.args[2] + fD (e.args.drop 3))) := by (conv => lhs; rw [e1]); simp only [fD]
      omega
    repeat' (first | ((with_reducible refine aG ?_); intro K hK) | ((first | ((with_reducible refine bK false ?_ ?_); rfl) | ((with_reducible refine bK true ?_ ?_); rfl)); intro K hK) | ((first | (with_reducible refine bT 99 false fB ?_) | (refine bT 99 false (by simp [iC, St.ev]) ?_)); intro K hK) | refine nN ?_ | ((with_reducible refine hK _ ?_); clear hK K) | (with_reducible refine ak ?_ ?_) | ((with_reducible refine aU ?_); first | (refine iw (h := hx0) (hK := ?_); rintro _ _ ⟨⟨s0, hs0, rfl⟩, rfl⟩) | (refine iw (h := hx1) (hK := ?_); rintro _ _ ⟨⟨s1, hs1, rfl⟩, rfl⟩) | (refine iw (h := hx2) (hK := ?_); rintro _ _ ⟨⟨s2, hs2, rfl⟩, rfl⟩)) | ((with_reducible refine jy ?_); first | (refine Ba (h := hx0) (hne := ⟨_, [], ⟨⟨⟨#[]⟩, Nat.zero_le _, rfl⟩, rfl⟩, rfl⟩) (hr := ?_); rintro _ _ ⟨⟨s0, hs0, rfl⟩, rfl⟩) | (refine Ba (h := hx1) (hne := ⟨_, [], ⟨⟨⟨#[]⟩, Nat.zero_le _, rfl⟩, rfl⟩, rfl⟩) (hr := ?_); rintro _ _ ⟨⟨s1, hs1, rfl⟩, rfl⟩) | (refine Ba (h := hx2) (hne := ⟨_, [], ⟨⟨⟨#[]⟩, Nat.zero_le _, rfl⟩, rfl⟩, rfl⟩) (hr := ?_); rintro _ _ ⟨⟨s2, hs2, rfl⟩, rfl⟩)) | ((with_reducible refine aH ?_); refine ss (XR f1 (XR f2 (XR f3 (XR f4 (XR f5 (XR f6 (XR f7 (XR f8 (XR f9 (XR @jm (XR @jE (XR i0 (XR i1 i2))))))))))))) ?_) | ((with_reducible refine bJ ?_); refine sx (XR f1 (XR f2 (XR f3 (XR f4 (XR f5 (XR f6 (XR f7 (XR f8 (XR f9 (XR @jm (XR @jE (XR i0 (XR i1 i2))))))))))))) ?_) | refine nv ?_ | (with_reducible (refine cS rfl ?_ ?_) <;> (intro hb hb'; first | (exfalso; omega) | skip)) | (exact GExpr.el _) | exact aZ | exact aI)
    all_goals first
      | omega
      | (simp only [ByteArray.size_append, szD, List.size_toArray, List.length_cons, List.length_nil]; omega)
      | (exact iT rfl rfl ⟨⟨_, by first | omega | (simp only [ByteArray.size_append, szD, List.size_toArray, List.length_cons, List.length_nil]; omega), rfl⟩, rfl⟩)
  · have f1 : (e.kind == 1) = false := by rw [kk]; exact decide_eq_false (by omega)
    have f2 : (e.kind == 2) = false := by rw [kk]; exact decide_eq_false (by omega)
    have f3 : (e.kind == 3) = false := by rw [kk]; exact decide_eq_false (by omega)
    have f4 : (e.kind == 4) = false := by rw [kk]; exact decide_eq_false (by omega)
    have f5 : (e.kind == 5) = false := by rw [kk]; exact decide_eq_false (by omega)
    have f6 : (e.kind == 6) = false := by rw [kk]; exact decide_eq_false (by omega)
    have f7 : (e.kind == 7) = false := by rw [kk]; exact decide_eq_false (by omega)
    have f8 : (e.kind == 8) = false := by rw [kk]; exact decide_eq_false (by omega)
    have f9 : (e.kind == 9) = true := by rw [kk]; exact decide_eq_true (by omega)
    have h0 : 0 < e.args.length := by omega
    have h1 : 1 < e.args.length := by omega
    have i0 : idx (e.args.map GExpr.toD) (some 0) = some (e.args[0]).toD := dR GExpr.toD e.args h0
    have i1 : idx (e.args.map GExpr.toD) (some 1) = some (e.args[1]).toD := dR GExpr.toD e.args h1
    have hx0 := hI _ (List.getElem_mem h0)
    have hx1 := hI _ (List.getElem_mem h1)
    have hsum : iR e.args[0] + iR e.args[1] ≤ fD e.args := by
      have e1 : e.args = e.args[0] :: e.args[1] :: e.args.drop 2 := by rw [← List.drop_eq_getElem_cons, ← List.drop_eq_getElem_cons]; rfl
      have e2 : fD e.args = iR e.args[0] + (iR e.args[1] + fD (e.args.drop 2)) := by (conv => lhs; rw [e1]); simp only [fD]
      omega
    repeat' (first | ((with_reducible refine aG ?_); intro K hK) | ((first | ((with_reducible refine bK false ?_ ?_); rfl) | ((with_reducible refine bK true ?_ ?_); rfl)); intro K hK) | ((first | (with_reducible refine bT 99 false fB ?_) | (refine bT 99 false (by simp [iC, St.ev]) ?_)); intro K hK) | refine nN ?_ | ((with_reducible refine hK _ ?_); clear hK K) | (with_reducible refine ak ?_ ?_) | ((with_reducible refine aU ?_); first | (refine iw (h := hx0) (hK := ?_); rintro _ _ ⟨⟨s0, hs0, rfl⟩, rfl⟩) | (refine iw (h := hx1) (hK := ?_); rintro _ _ ⟨⟨s1, hs1, rfl⟩, rfl⟩)) | ((with_reducible refine jy ?_); first | (refine Ba (h := hx0) (hne := ⟨_, [], ⟨⟨⟨#[]⟩, Nat.zero_le _, rfl⟩, rfl⟩, rfl⟩) (hr := ?_); rintro _ _ ⟨⟨s0, hs0, rfl⟩, rfl⟩) | (refine Ba (h := hx1) (hne := ⟨_, [], ⟨⟨⟨#[]⟩, Nat.zero_le _, rfl⟩, rfl⟩, rfl⟩) (hr := ?_); rintro _ _ ⟨⟨s1, hs1, rfl⟩, rfl⟩)) | ((with_reducible refine aH ?_); refine ss (XR f1 (XR f2 (XR f3 (XR f4 (XR f5 (XR f6 (XR f7 (XR f8 (XR f9 (XR @jm (XR @jE (XR i0 i1)))))))))))) ?_) | ((with_reducible refine bJ ?_); refine sx (XR f1 (XR f2 (XR f3 (XR f4 (XR f5 (XR f6 (XR f7 (XR f8 (XR f9 (XR @jm (XR @jE (XR i0 i1)))))))))))) ?_) | refine nv ?_ | (with_reducible (refine cS rfl ?_ ?_) <;> (intro hb hb'; first | (exfalso; omega) | skip)) | (exact GExpr.el _) | exact aZ | exact aI)
    all_goals first
      | omega
      | (simp only [ByteArray.size_append, szD, List.size_toArray, List.length_cons, List.length_nil]; omega)
      | (exact iT rfl rfl ⟨⟨_, by first | omega | (simp only [ByteArray.size_append, szD, List.size_toArray, List.length_cons, List.length_nil]; omega), rfl⟩, rfl⟩)
theorem PZ : ∀ (n : Nat) (e : GExpr), e.toD.wt < n → e.toD.wt ≤ 1000000 → e.allN = true → mF e := by
  intro n
  induction n with
  | zero => intro e h; omega
  | succ n ih => intro e h hw ha; exact Vm e hw (Qi ha) (fun y hy => ih y (by have := qx hy; omega) (by have := qx hy; omega) (UE ha hy))
def Ju : IC := (.seq (.reg false [⟨(some 1), none, .box (.t 0)⟩, ⟨(some 2), none, .mov (.k (.string ⟨#[]⟩))⟩]) (.seq (.seq (.reg false [⟨(some 3), none, .load 4 true (.t 1)⟩, ⟨(some 4), none, .call 83 [(.t 3)]⟩, ⟨(some 5), none, .not (.t 4)⟩]) (.cond (.t 5) (.seq (.reg false [⟨(some 2), none, .mov (.k (.string ⟨#[]⟩))⟩]) .ret) .skip)) (.seq (.reg false [⟨(some 6), none, .load 4 true (.t 1)⟩, ⟨(some 7), none, .call 84 [(.t 6)]⟩, ⟨(some 2), none, .mov (.t 7)⟩]) .ret)))
theorem Jt : aF Try.prog (Try.f72.body.getD .skip) = some Ju := by kernel_rfl
set_option maxRecDepth 8000 in
set_option maxHeartbeats 8000000 in
theorem Vs (e : GExpr) (hw : e.toD.wt ≤ 1000000) : fA Try.prog 72 [e.toD] (fun r os' => (∃ s : ByteArray, s.size ≤ iR e ∧ r = .c false [.raw (.string s)]) ∧ os' = []) := by
  refine qj (fn := Try.f72) (r := .tmp 2) (by kernel_rfl) (by kernel_rfl) (by kernel_rfl) Jt ?_
  unfold Ju
  change AWP _ _ _ (st0 8 _)
  refine sS trivial ?_
  have c1 := AY e (by omega)
  cases hv : Fv e
  · rw [hv] at c1
    repeat' (first | ((with_reducible refine aG ?_); intro K hK) | ((with_reducible refine hK _ ?_); clear hK K) | (with_reducible refine ak ?_ ?_) | ((with_reducible refine aU ?_); first | refine au (hc := c1) (h := ?_)) | ((with_reducible refine aH ?_); refine ss trivial ?_) | refine nv ?_ | (with_reducible (refine cS rfl ?_ ?_) <;> (intro hb hb'; first | (exfalso; omega) | skip)) | (exact GExpr.el _) | exact aZ | exact aI)
    exact iT rfl rfl ⟨⟨_, Nat.zero_le _, rfl⟩, rfl⟩
  · rw [hv] at c1
    have ha : e.allN = true := by unfold Fv at hv; simp only [Bool.and_eq_true] at hv; exact hv.2
    have c2 := PZ _ e (Nat.lt_succ_self _) hw ha
    unfold mF at c2
    repeat' (first | ((with_reducible refine aG ?_); intro K hK) | ((with_reducible refine hK _ ?_); clear hK K) | (with_reducible refine ak ?_ ?_) | ((with_reducible refine aU ?_); first | refine au (hc := c1) (h := ?_) | (refine iw (h := c2) (hK := ?_); rintro _ _ ⟨⟨s, hs, rfl⟩, rfl⟩)) | ((with_reducible refine aH ?_); refine ss trivial ?_) | refine nv ?_ | (with_reducible (refine cS rfl ?_ ?_) <;> (intro hb hb'; first | (exfalso; omega) | skip)) | (exact GExpr.el _) | exact aZ | exact aI)
    exact iT rfl rfl ⟨⟨_, hs, rfl⟩, rfl⟩
end Go.Proofs.Ytnongnchpplacaa

