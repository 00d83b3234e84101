/-
  Texts joined: Num Fmt.
-/
import Derived.Test.YtfjmoicellpnhaaGreatJA
import Derived.Test.YtfjmoicellpnhaaGreatJE
import Derived.Test.YtfjmoicellpnhaaGreatJG
import Derived.Lib.AppendIntMem
import Derived.Lib.ItoaLen
import Derived.Test.YtfjmoicellpnhaaGreatJF
namespace Go.Proofs.YtfjmoicellpnhaaGreat
open Go.RowKit
set_option linter.unusedSimpArgs false
set_option linter.unusedVariables false
def BO (n : Int) : ByteArray := ⟨(Lib.itoa n).toArray⟩
theorem J3 {n : Int} (h0 : -9223372036854775808 ≤ n) (h1 : n ≤ 9223372036854775807) : (BO n).size ≤ 21 := by
  have := Lib.itoa_length_le n h0 h1
  simpa [BO, ByteArray.size] using this
theorem ZV {u : Nat} (h : ¬ u < 10) : Lib.decDigits u = Lib.decDigits (u / 10) ++ [UInt8.ofNat (48 + u % 10)] := by
  rw [Lib.decDigits, dif_neg h]
theorem ZU {u : Nat} (h : u ≤ 9223372036854775808) : (Lib.decDigits u).length ≤ 21 := by
  by_cases h0 : u = 0
  · subst h0; rw [Lib.decDigits_one (by decide)]; decide
  · have := Lib.itoa_length_le (-(u : Int)) (by omega) (by omega)
    rw [Lib.itoa_neg u (by omega)] at this
    simp at this
    omega
def nP (n0 n : Int) (o : List UInt8) : Prop := n.natAbs ≤ n0.natAbs ∧ (0 ≤ n0 → 0 ≤ n) ∧ (n0 ≤ 0 → n ≤ 0) ∧ (if n = 0 then o = Lib.decDigits n0.natAbs else Lib.decDigits n.natAbs ++ o = Lib.decDigits n0.natAbs)
theorem nP.start {n0 : Int} (h : n0 ≠ 0) : nP n0 n0 [] := ⟨Nat.le_refl _, id, id, by rw [if_neg h, List.append_nil]⟩
theorem nP.len {n0 n : Int} {o : List UInt8} (h : nP n0 n o) (hb : n0.natAbs ≤ 9223372036854775808) : o.length ≤ 21 := by
  have hl := ZU hb
  obtain ⟨_, _, _, h⟩ := h
  split at h
  · rw [h]; exact hl
  · rw [← h, List.length_append] at hl; omega
theorem Hg (n : Int) : (n.tdiv 10).natAbs = n.natAbs / 10 := by rw [Int.natAbs_tdiv]; rfl
theorem Hf (n : Int) : (0 ≤ n → 0 ≤ n.tdiv 10) ∧ (n ≤ 0 → n.tdiv 10 ≤ 0) := by
  refine ⟨fun h => Int.tdiv_nonneg h (by decide), fun h => ?_⟩
  have := Int.tdiv_nonneg (a := -n) (b := 10) (by omega) (by decide)
  rw [Int.neg_tdiv] at this
  omega
theorem nP.go {n0 n : Int} {o : List UInt8} (h : nP n0 n o) (hn : n ≠ 0) : nP n0 (n.tdiv 10) (UInt8.ofNat (48 + n.natAbs % 10) :: o) := by
  obtain ⟨h1, h2, h3, h4⟩ := h
  rw [if_neg hn] at h4
  have ha := Hg n
  have hsg := Hf n
  refine ⟨by omega, fun hp => ?_, fun hp => ?_, ?_⟩
  · have := h2 hp; omega
  · have := h3 hp; omega
  · by_cases hs : n.natAbs < 10
    · have hz : n.tdiv 10 = 0 := by omega
      rw [if_pos hz, ← h4, Lib.decDigits_one hs, Nat.mod_eq_of_lt hs]
      rfl
    · have hz : n.tdiv 10 ≠ 0 := by omega
      rw [if_neg hz, ← h4, ZV hs, ha]
      simp
theorem nP.fin {n0 : Int} {o : List UInt8} (h : nP n0 0 o) : o = Lib.decDigits n0.natAbs := by
  obtain ⟨_, _, _, h⟩ := h
  simpa using h
theorem JZ {n : Int} (h : 0 ≤ n) : BO n = ⟨(Lib.decDigits n.natAbs).toArray⟩ := by
  unfold BO Lib.itoa
  rw [if_neg (by omega)]
  have e : n.toNat = n.natAbs := by omega
  rw [e]
theorem VX {n : Int} (h : n < 0) : BO n = ⟨(45 :: Lib.decDigits n.natAbs).toArray⟩ := by
  unfold BO Lib.itoa
  rw [if_pos h]
theorem W9 (a b : List UInt8) : (⟨a.toArray⟩ : ByteArray) ++ ⟨b.toArray⟩ = ⟨(a ++ b).toArray⟩ := by
  apply ByteArray.ext
  simp
theorem Ol {d : Int} (h0 : 0 ≤ d) (h1 : d ≤ 255) : IntKind.u8.wrap d = d := by
  simp [IntKind.wrap, IntKind.signed, IntKind.bits]
  omega
theorem Xy {α : Type} {x y : α} : (if (10 : Int) = 0 then x else y) = y := if_neg (by decide)
def yT : IC := (zd_ [zz_ 2 (.mov (.k (.string ⟨#[]⟩)))] (.seq (zd_ [zw_ 6 0, zm_ 7 .eql 6 0] (.cond (.t 7) (zd_ [zz_ 2 (.mov (.k (.string ⟨#[48]⟩)))] .ret) .skip)) (zd_ [zw_ 8 0, zm_ 9 .lss 8 0, zw_ 3 9] (zd_ [zz_ 4 (.mov (.k (.string ⟨#[]⟩)))] (.seq (.block 0 (.loop (.seq (zd_ [zw_ 10 0, zm_ 11 .neq 10 0] (.cond (.t 11) .skip (.exit 0))) (.block 1 (zd_ [zw_ 12 0, zm_ 13 .rem 12 10, zw_ 5 13] (.seq (zd_ [zw_ 14 5, zm_ 15 .lss 14 0] (.cond (.t 15) (.reg false [zw_ 16 5, zz_ 17 (.bin .sub (.k (.int .i64 0)) (.t 16)), zw_ 5 17]) .skip)) (zd_ [zw_ 18 5, zz_ 19 (.bin .add (.k (.int .i64 48)) (.t 18)), zz_ 20 (.cvi .u8 (.t 19)), zz_ 21 (.brow true 5 1 1 false [(.t 20)]), zz_ 22 (.cvs (.t 21)), zw_ 23 4, zl_ 24 .add 22 23, zw_ 4 24] (.reg false [zw_ 25 0, zm_ 26 .quo 25 10, zw_ 0 26])))))))) (.seq (zd_ [zw_ 27 3] (.cond (.t 27) (zd_ [zw_ 28 4, zz_ 29 (.bin .add (.k (.string ⟨#[45]⟩)) (.t 28)), zw_ 2 29] .ret) .skip)) (zd_ [zw_ 30 4, zw_ 2 30] .ret)))))))
theorem Bz : ay Tryz.prog (Tryz.f126.body.getD .skip) = some yT := by kernel_rfl
theorem pO {a : UInt8} {o : List UInt8} (h : o.length ≤ 21) : ((((⟨#[a]⟩ : ByteArray).size + (⟨o.toArray⟩ : ByteArray).size : Nat) : Int) > IntKind.i64.max) = False := by
  have e1 : (⟨o.toArray⟩ : ByteArray).size = o.length := by simp [ByteArray.size]
  have e2 : (⟨#[a]⟩ : ByteArray).size = 1 := rfl
  have e3 : IntKind.i64.max = 9223372036854775807 := by decide
  rw [e1, e2, e3]
  simp
  omega
theorem zQ {a : UInt8} {o : List UInt8} (h : o.length ≤ 21) : (9223372036854775807 < ((((⟨#[a]⟩ : ByteArray).size : Nat) : Int) + (((⟨o.toArray⟩ : ByteArray).size : Nat) : Int))) = False := by
  have e1 : (⟨o.toArray⟩ : ByteArray).size = o.length := by simp [ByteArray.size]
  have e2 : (⟨#[a]⟩ : ByteArray).size = 1 := rfl
  rw [e1, e2]
  simp
  omega
set_option maxHeartbeats 8000000 in
theorem lK {n : Int} (h0 : -9223372036854775808 ≤ n) (h1 : n ≤ 9223372036854775807) : aS Tryz.prog 126 [li n] (.c false [.raw (.string (BO n))]) := by
  refine fE (fn := Tryz.f126) (t := 2) (by kernel_rfl) (by kernel_rfl) (by kernel_rfl) Bz ?_
  unfold yT; refine zb_ ?_
  change AWP _ _ _ (st0 31 _)
  simp only [undef, stS, st0, stN, D.av, D.avN, kP, gQ, kR, kQ, l9, su, fU, fQ, List.map_cons, List.map_nil, List.replicate, List.cons_append, List.nil_append, List.length_cons, List.length_nil, Nat.reduceAdd, Nat.reduceSub]
  by_cases hz : n = 0
  · subst hz
    have hz' : ((0 : Int) == 0) = true := rfl
    repeat' (first | (with_reducible first | refine lW ?_ | refine iW ?_ | refine jQ ?_ | refine jR ?_ | refine lX ?_ | refine tJ ?_ | refine jF ?_ | refine lD ?_ | refine fV ?_ | refine iR ?_ | refine jP ?_ | refine iL ?_ | refine jH ?_ | refine gJ ?_ | refine iK ?_) | ((with_reducible refine iQ ?_ ?_); rfl) | ((with_reducible refine iT ?_ ?_); rfl) | ((with_reducible refine iV ?_ ?_); rfl) | (with_reducible (refine iU rfl ?_ ?_); all_goals (intro hb; have hb' := hb; (try simp only [pkC] at hb'); try (exfalso; omega))) | ((with_reducible refine au ?_); intro K hK) | ((with_reducible refine hK _ ?_); clear hK K) | (with_reducible refine aj ?_ ?_) | ((with_reducible refine aC ?_); simp (disch := first | decide | omega) only [↓pkS, pkW, pkA, undef, List.flatMap_cons, List.flatMap_nil, List.append_nil, jZ, oK, lvD, rC, lcD, lvK, lcK, eU, dY, je, ex, St.put, St.ev, kav, gdA, opI, fG, rF, jA, oh, rE, AV.toD, AC.toD, AV.nw, AC.nw, AC.one, Value.oneCell', eu, bQ, dD, dZ, iw, gB, if_true, if_false, Bool.false_eq_true, jM, D.one, D.ones, D.sz, D.szs, Nat.reduceAdd, Nat.reduceSub, Nat.reduceLeDiff, Nat.reduceEqDiff, reduceIte, pkN, fU, fQ, hz']) | (first | (with_reducible rfl) | (with_reducible refine lM ?_; kernel_rfl) | exact eY _ | exact gu _ | exact el_ln _ | exact el_tk _ _ | exact el_td _ _ _ | omega | (simp; done) | (simp; omega)) | ((with_reducible refine mV ?_); simp [bC, nG, jw, lY, AC.toD, eu, bQ, dD, dZ, Value.oneCell', kG, gq, kJ, kH, kP, gQ, kR, kQ, wF, wG, fU, fQ, hz']; first | done | rfl))
    exact dM ⟨_, rfl, by rw [JZ (by decide)]; rw [show Lib.decDigits (Int.natAbs 0) = [48] from by rw [Lib.decDigits_one (by decide)]; rfl]; rfl, trivial⟩
  have hz' : (n == 0) = false := by simp [hz]
  repeat' (first | (with_reducible first | refine lW ?_ | refine iW ?_ | refine jQ ?_ | refine jR ?_ | refine lX ?_ | refine tJ ?_ | refine jF ?_ | refine lD ?_ | refine fV ?_ | refine iR ?_ | refine jP ?_ | refine iL ?_ | refine jH ?_ | refine gJ ?_ | refine iK ?_) | ((with_reducible refine iQ ?_ ?_); rfl) | ((with_reducible refine iT ?_ ?_); rfl) | ((with_reducible refine iV ?_ ?_); rfl) | (with_reducible (refine iU rfl ?_ ?_); all_goals (intro hb; have hb' := hb; (try simp only [pkC] at hb'); try (exfalso; omega))) | ((with_reducible refine au ?_); intro K hK) | ((with_reducible refine hK _ ?_); clear hK K) | (with_reducible refine aj ?_ ?_) | ((with_reducible refine aC ?_); simp (disch := first | decide | omega) only [↓pkS, pkW, pkA, undef, List.flatMap_cons, List.flatMap_nil, List.append_nil, jZ, oK, lvD, rC, lcD, lvK, lcK, eU, dY, je, ex, St.put, St.ev, kav, gdA, opI, fG, rF, jA, oh, rE, AV.toD, AC.toD, AV.nw, AC.nw, AC.one, Value.oneCell', eu, bQ, dD, dZ, iw, gB, if_true, if_false, Bool.false_eq_true, jM, D.one, D.ones, D.sz, D.szs, Nat.reduceAdd, Nat.reduceSub, Nat.reduceLeDiff, Nat.reduceEqDiff, reduceIte, pkN, fU, fQ, hz']) | (first | (with_reducible rfl) | (with_reducible refine lM ?_; kernel_rfl) | exact eY _ | exact gu _ | exact el_ln _ | exact el_tk _ _ | exact el_td _ _ _ | omega | (simp; done) | (simp; omega)) | ((with_reducible refine mV ?_); simp [bC, nG, jw, lY, AC.toD, eu, bQ, dD, dZ, Value.oneCell', kG, gq, kJ, kH, kP, gQ, kR, kQ, wF, wG, fU, fQ, hz']; first | done | rfl))
  refine cO (X := Int × List UInt8) (fun q => [.v (.c false [.raw (.int .i64 q.1)]), .d, .d, .v (.c false [.raw (.bool (decide (n < 0)))]), .v (.c false [.raw (.string ⟨q.2.toArray⟩)]), .d, .d, .d, .d, .d, .d, .d, .d, .d, .d, .d, .d, .d, .d, .d, .d, .d, .d, .d, .d, .d, .d, .d, .d, .d, .d]) (fun q => []) (fun q bs => []) (fun q => nP n q.1 q.2) (fun q => q.1.natAbs) (n, []) (nP.start hz) ?_ ?_
  · simp [bI, dh, bM, bP, AV.fits, AC.fits, FB, bn]
  rintro ⟨m, o⟩ hv
  simp only [FB, bn]
  have hv : nP n m o := hv
  have hab := hv.1
  by_cases hm : m = 0
  · subst hm
    have hne : ((0 : Int) != 0) = false := rfl
    have ho := hv.fin
    have hlen := hv.len (by omega)
    by_cases hb : n < 0
    · have hb' : decide (n < 0) = true := decide_eq_true hb
      repeat' (first | (with_reducible first | refine lW ?_ | refine iW ?_ | refine jQ ?_ | refine jR ?_ | refine lX ?_ | refine tJ ?_ | refine jF ?_ | refine lD ?_ | refine fV ?_ | refine iR ?_ | refine jP ?_ | refine iL ?_ | refine jH ?_ | refine gJ ?_ | refine iK ?_) | ((with_reducible refine iQ ?_ ?_); rfl) | ((with_reducible refine iT ?_ ?_); rfl) | ((with_reducible refine iV ?_ ?_); rfl) | (with_reducible (refine iU rfl ?_ ?_); all_goals (intro hb; have hb' := hb; (try simp only [pkC] at hb'); try (exfalso; omega))) | ((with_reducible refine au ?_); intro K hK) | ((with_reducible refine hK _ ?_); clear hK K) | (with_reducible refine aj ?_ ?_) | ((with_reducible refine aC ?_); simp (disch := first | decide | omega) only [↓pkS, pkW, pkA, undef, List.flatMap_cons, List.flatMap_nil, List.append_nil, jZ, oK, lvD, rC, lcD, lvK, lcK, eU, dY, je, ex, St.put, St.ev, kav, gdA, opI, fG, rF, jA, oh, rE, AV.toD, AC.toD, AV.nw, AC.nw, AC.one, Value.oneCell', eu, bQ, dD, dZ, iw, gB, if_true, if_false, Bool.false_eq_true, jM, D.one, D.ones, D.sz, D.szs, Nat.reduceAdd, Nat.reduceSub, Nat.reduceLeDiff, Nat.reduceEqDiff, reduceIte, pkN, fU, fQ, hne, hb', pO hlen, zQ hlen]) | (first | (with_reducible rfl) | (with_reducible refine lM ?_; kernel_rfl) | exact eY _ | exact gu _ | exact el_ln _ | exact el_tk _ _ | exact el_td _ _ _ | omega | (simp; done) | (simp; omega)) | ((with_reducible refine mV ?_); simp [bC, nG, jw, lY, AC.toD, eu, bQ, dD, dZ, Value.oneCell', kG, gq, kJ, kH, kP, gQ, kR, kQ, wF, wG, fU, fQ, hne, hb', pO hlen, zQ hlen]; first | done | rfl))
      exact dM ⟨_, rfl, by rw [VX hb, ← ho]; rfl, trivial⟩
    · have hb' : decide (n < 0) = false := decide_eq_false hb
      repeat' (first | (with_reducible first | refine lW ?_ | refine iW ?_ | refine jQ ?_ | refine jR ?_ | refine lX ?_ | refine tJ ?_ | refine jF ?_ | refine lD ?_ | refine fV ?_ | refine iR ?_ | refine jP ?_ | refine iL ?_ | refine jH ?_ | refine gJ ?_ | refine iK ?_) | ((with_reducible refine iQ ?_ ?_); rfl) | ((with_reducible refine iT ?_ ?_); rfl) | ((with_reducible refine iV ?_ ?_); rfl) | (with_reducible (refine iU rfl ?_ ?_); all_goals (intro hb; have hb' := hb; (try simp only [pkC] at hb'); try (exfalso; omega))) | ((with_reducible refine au ?_); intro K hK) | ((with_reducible refine hK _ ?_); clear hK K) | (with_reducible refine aj ?_ ?_) | ((with_reducible refine aC ?_); simp (disch := first | decide | omega) only [↓pkS, pkW, pkA, undef, List.flatMap_cons, List.flatMap_nil, List.append_nil, jZ, oK, lvD, rC, lcD, lvK, lcK, eU, dY, je, ex, St.put, St.ev, kav, gdA, opI, fG, rF, jA, oh, rE, AV.toD, AC.toD, AV.nw, AC.nw, AC.one, Value.oneCell', eu, bQ, dD, dZ, iw, gB, if_true, if_false, Bool.false_eq_true, jM, D.one, D.ones, D.sz, D.szs, Nat.reduceAdd, Nat.reduceSub, Nat.reduceLeDiff, Nat.reduceEqDiff, reduceIte, pkN, fU, fQ, hne, hb', pO hlen, zQ hlen]) | (first | (with_reducible rfl) | (with_reducible refine lM ?_; kernel_rfl) | exact eY _ | exact gu _ | exact el_ln _ | exact el_tk _ _ | exact el_td _ _ _ | omega | (simp; done) | (simp; omega)) | ((with_reducible refine mV ?_); simp [bC, nG, jw, lY, AC.toD, eu, bQ, dD, dZ, Value.oneCell', kG, gq, kJ, kH, kP, gQ, kR, kQ, wF, wG, fU, fQ, hne, hb', pO hlen, zQ hlen]; first | done | rfl))
      exact dM ⟨_, rfl, by rw [JZ (by omega), ← ho]; rfl, trivial⟩
  · have hneq : (m != 0) = true := by simp [hm]
    have hd0 : (n.natAbs : Int) = 0 ∨ True := Or.inr trivial
    have hdv := Hg m
    have hsg := Hf m
    have hmo : m.tmod 10 = m - 10 * m.tdiv 10 := by have := Int.tmod_add_mul_tdiv m 10; omega
    have hw1 : IntKind.i64.wrap (m.tdiv 10) = m.tdiv 10 := iy (by omega) (by omega)
    have hlen := hv.len (by omega)
    have hg := hv.go hm
    by_cases hs : m.tmod 10 < 0
    · have hs' : decide (m.tmod 10 < 0) = true := decide_eq_true hs
      have hw2 : IntKind.i64.wrap (0 - m.tmod 10) = ((m.natAbs % 10 : Nat) : Int) := by rw [iy (by omega) (by omega)]; omega
      have hw3 : IntKind.i64.wrap (48 + ((m.natAbs % 10 : Nat) : Int)) = 48 + ((m.natAbs % 10 : Nat) : Int) := iy (by omega) (by omega)
      have hw4 : IntKind.u8.wrap (48 + ((m.natAbs % 10 : Nat) : Int)) = 48 + ((m.natAbs % 10 : Nat) : Int) := Ol (by omega) (by omega)
      have hw5 : (48 + ((m.natAbs % 10 : Nat) : Int)).toNat = 48 + m.natAbs % 10 := by omega
      repeat' (first | (with_reducible first | refine lW ?_ | refine iW ?_ | refine jQ ?_ | refine jR ?_ | refine lX ?_ | refine tJ ?_ | refine jF ?_ | refine lD ?_ | refine fV ?_ | refine iR ?_ | refine jP ?_ | refine iL ?_ | refine jH ?_ | refine gJ ?_ | refine iK ?_) | ((with_reducible refine iQ ?_ ?_); rfl) | ((with_reducible refine iT ?_ ?_); rfl) | ((with_reducible refine iV ?_ ?_); rfl) | (with_reducible (refine iU rfl ?_ ?_); all_goals (intro hb; have hb' := hb; (try simp only [pkC] at hb'); try (exfalso; omega))) | ((with_reducible refine au ?_); intro K hK) | ((with_reducible refine hK _ ?_); clear hK K) | (with_reducible refine aj ?_ ?_) | ((with_reducible refine aC ?_); simp (disch := first | decide | omega) only [↓pkS, pkW, pkA, undef, List.flatMap_cons, List.flatMap_nil, List.append_nil, jZ, oK, lvD, rC, lcD, lvK, lcK, eU, dY, je, ex, St.put, St.ev, kav, gdA, opI, fG, rF, jA, oh, rE, AV.toD, AC.toD, AV.nw, AC.nw, AC.one, Value.oneCell', eu, bQ, dD, dZ, iw, gB, if_true, if_false, Bool.false_eq_true, jM, D.one, D.ones, D.sz, D.szs, Nat.reduceAdd, Nat.reduceSub, Nat.reduceLeDiff, Nat.reduceEqDiff, reduceIte, pkN, fU, fQ, Xy, hneq, hs', hw1, hw2, hw3, hw4, hw5, jg, pO hlen]) | (first | (with_reducible rfl) | (with_reducible refine lM ?_; kernel_rfl) | exact eY _ | exact gu _ | exact el_ln _ | exact el_tk _ _ | exact el_td _ _ _ | omega | (simp; done) | (simp; omega)) | ((with_reducible refine mV ?_); simp [bC, nG, jw, lY, AC.toD, eu, bQ, dD, dZ, Value.oneCell', kG, gq, kJ, kH, kP, gQ, kR, kQ, wF, wG, fU, fQ, Xy, hneq, hs', hw1, hw2, hw3, hw4, hw5, jg, pO hlen]; first | done | rfl))
      refine dn (m.tdiv 10, UInt8.ofNat (48 + m.natAbs % 10) :: o) ?_ hg (show (m.tdiv 10).natAbs < m.natAbs by omega)
      simp [bI, dh, bM, bP, AV.fits, AC.fits, FB, bn, W9]
    · have hs' : decide (m.tmod 10 < 0) = false := decide_eq_false hs
      have hw2 : m.tmod 10 = ((m.natAbs % 10 : Nat) : Int) := by omega
      have hw3 : IntKind.i64.wrap (48 + ((m.natAbs % 10 : Nat) : Int)) = 48 + ((m.natAbs % 10 : Nat) : Int) := iy (by omega) (by omega)
      have hw4 : IntKind.u8.wrap (48 + ((m.natAbs % 10 : Nat) : Int)) = 48 + ((m.natAbs % 10 : Nat) : Int) := Ol (by omega) (by omega)
      have hw5 : (48 + ((m.natAbs % 10 : Nat) : Int)).toNat = 48 + m.natAbs % 10 := by omega
      repeat' (first | (with_reducible first | refine lW ?_ | refine iW ?_ | refine jQ ?_ | refine jR ?_ | refine lX ?_ | refine tJ ?_ | refine jF ?_ | refine lD ?_ | refine fV ?_ | refine iR ?_ | refine jP ?_ | refine iL ?_ | refine jH ?_ | refine gJ ?_ | refine iK ?_) | ((with_reducible refine iQ ?_ ?_); rfl) | ((with_reducible refine iT ?_ ?_); rfl) | ((with_reducible refine iV ?_ ?_); rfl) | (with_reducible (refine iU rfl ?_ ?_); all_goals (intro hb; have hb' := hb; (try simp only [pkC] at hb'); try (exfalso; omega))) | ((with_reducible refine au ?_); intro K hK) | ((with_reducible refine hK _ ?_); clear hK K) | (with_reducible refine aj ?_ ?_) | ((with_reducible refine aC ?_); simp (disch := first | decide | omega) only [↓pkS, pkW, pkA, undef, List.flatMap_cons, List.flatMap_nil, List.append_nil, jZ, oK, lvD, rC, lcD, lvK, lcK, eU, dY, je, ex, St.put, St.ev, kav, gdA, opI, fG, rF, jA, oh, rE, AV.toD, AC.toD, AV.nw, AC.nw, AC.one, Value.oneCell', eu, bQ, dD, dZ, iw, gB, if_true, if_false, Bool.false_eq_true, jM, D.one, D.ones, D.sz, D.szs, Nat.reduceAdd, Nat.reduceSub, Nat.reduceLeDiff, Nat.reduceEqDiff, reduceIte, pkN, fU, fQ, Xy, hneq, hs', hw1, hw2, hw3, hw4, hw5, jg, pO hlen]) | (first | (with_reducible rfl) | (with_reducible refine lM ?_; kernel_rfl) | exact eY _ | exact gu _ | exact el_ln _ | exact el_tk _ _ | exact el_td _ _ _ | omega | (simp; done) | (simp; omega)) | ((with_reducible refine mV ?_); simp [bC, nG, jw, lY, AC.toD, eu, bQ, dD, dZ, Value.oneCell', kG, gq, kJ, kH, kP, gQ, kR, kQ, wF, wG, fU, fQ, Xy, hneq, hs', hw1, hw2, hw3, hw4, hw5, jg, pO hlen]; first | done | rfl))
      refine dn (m.tdiv 10, UInt8.ofNat (48 + m.natAbs % 10) :: o) ?_ hg (show (m.tdiv 10).natAbs < m.natAbs by omega)
      simp [bI, dh, bM, bP, AV.fits, AC.fits, FB, bn, W9]
theorem kY {α : Type} {f : α → D} {l : List α} {k : Nat} (h : k < l.length) : (l.map f)[k]? = some (f l[k]) := by rw [List.getElem?_map, List.getElem?_eq_getElem h]; rfl
def pz (l : List ByteArray) (b : ByteArray) : Nat → List UInt8
  | 0 => []
  | k + 1 => pz l b k ++ ((if 0 < k then b.data.toList else []) ++ (l.getD k ⟨#[]⟩).data.toList)
def II (l : List ByteArray) (b : ByteArray) : ByteArray := ⟨(pz l b l.length).toArray⟩
theorem IG (l : List ByteArray) (b : ByteArray) : ∀ {k n : Nat}, k ≤ n → (pz l b k).length ≤ (pz l b n).length
  | k, 0, h => by
    obtain rfl : k = 0 := by omega
    exact Nat.le_refl _
  | k, n + 1, h => by
    by_cases hk : k = n + 1
    · subst hk; exact Nat.le_refl _
    · have := IG l b (k := k) (n := n) (by omega)
      simp only [pz, List.length_append]
      omega
theorem AU {l : List ByteArray} {b : ByteArray} {k : Nat} (h : k < l.length) : pz l b (k + 1) = pz l b k ++ ((if 0 < k then b.data.toList else []) ++ l[k].data.toList) := by
  simp [pz, List.getD_eq_getElem?_getD, h]
theorem QJ (s : ByteArray) : s.data.toList.length = s.size := by simp
def wQ : IC := (zd_ [zz_ 4 (.mov (.k (.string ⟨#[]⟩)))] (zd_ [zz_ 7 (.brow true 5 1 0 false []), zw_ 5 7] (.seq (zd_ [zk_ 6 0] (.block 0 (.loop (.seq (zd_ [zw_ 8 6, zw_ 9 0, zf_ 10 false 9, zl_ 11 .lss 8 10] (.cond (.t 11) .skip (.exit 0))) (.seq (.block 1 (.seq (zd_ [zw_ 14 6, zm_ 15 .gtr 14 0] (.cond (.t 15) (.reg false [zw_ 16 5, zw_ 17 1, zz_ 18 (.apps 5 (.t 16) (.t 17)), zw_ 5 18]) .skip)) (.reg false [zw_ 19 5, zw_ 20 0, zw_ 21 6, ze_ 22 1 20 21, zs_ 23 1 22, zz_ 24 (.apps 5 (.t 19) (.t 23)), zw_ 5 24]))) (.reg false [zw_ 12 6, zm_ 13 .add 12 1, zw_ 6 13])))))) (zd_ [zw_ 25 5, zz_ 26 (.cvs (.t 25)), zw_ 4 26] .ret))))
theorem zD : ay Tryz.prog (Tryz.f130.body.getD .skip) = some wQ := by kernel_rfl
set_option maxHeartbeats 8000000 in
theorem wI (l : List ByteArray) (b : ByteArray) (hb : (pz l b l.length).length ≤ 1073741824) (hn : l.length ≤ 4194304) : aS Tryz.prog 130 [.sl (l.map ls), ls b] (.c false [.raw (.string (II l b))]) := by
  refine fE (fn := Tryz.f130) (t := 4) (by kernel_rfl) (by kernel_rfl) (by kernel_rfl) zD ?_
  unfold wQ; refine zb_ ?_
  change AWP _ _ _ (st0 27 _)
  simp only [undef, stS, st0, stN, D.av, D.avN, kP, gQ, kR, kQ, l9, su, fU, fQ, GCell.dL, GCell.aZ, GCell.dw, List.map_cons, List.map_nil, List.replicate, List.cons_append, List.nil_append, List.length_cons, List.length_nil, Nat.reduceAdd, Nat.reduceSub]
  repeat' (first | (with_reducible first | refine lW ?_ | refine iW ?_ | refine jQ ?_ | refine jR ?_ | refine lX ?_ | refine tJ ?_ | refine jF ?_ | refine lD ?_ | refine fV ?_ | refine iR ?_ | refine jP ?_ | refine iL ?_ | refine jH ?_ | refine gJ ?_ | refine iK ?_) | ((with_reducible refine iQ ?_ ?_); rfl) | ((with_reducible refine iT ?_ ?_); rfl) | ((with_reducible refine iV ?_ ?_); rfl) | (with_reducible (refine iU rfl ?_ ?_); all_goals (intro hb; have hb' := hb; (try simp only [pkC] at hb'); try (exfalso; omega))) | ((with_reducible refine au ?_); intro K hK) | ((with_reducible refine hK _ ?_); clear hK K) | (with_reducible refine aj ?_ ?_) | ((with_reducible refine aC ?_); simp (disch := first | decide | omega) only [↓pkS, pkW, pkA, undef, List.flatMap_cons, List.flatMap_nil, List.append_nil, jZ, oK, lvD, rC, lcD, lvK, lcK, eU, dY, je, ex, St.put, St.ev, kav, gdA, opI, fG, rF, jA, oh, rE, AV.toD, AC.toD, AV.nw, AC.nw, AC.one, Value.oneCell', eu, bQ, dD, dZ, iw, gB, if_true, if_false, Bool.false_eq_true, jM, D.one, D.ones, D.sz, D.szs, Nat.reduceAdd, Nat.reduceSub, Nat.reduceLeDiff, Nat.reduceEqDiff, reduceIte, pkN, fU, fQ, l9, GCell.dL, GCell.aZ, GCell.dw, kY]) | (first | (with_reducible rfl) | (with_reducible refine lM ?_; kernel_rfl) | exact eY _ | exact gu _ | exact el_ln _ | exact el_tk _ _ | exact el_td _ _ _ | omega | (simp; done) | (simp; omega)) | ((with_reducible refine mV ?_); simp [bC, nG, jw, lY, AC.toD, eu, bQ, dD, dZ, Value.oneCell', kG, gq, kJ, kH, kP, gQ, kR, kQ, wF, wG, fU, fQ, l9, GCell.dL, GCell.aZ, GCell.dw, kY]; first | done | rfl))
  refine cO (X := Nat × Nat) (fun q => [.k, .k, .d, .d, .d, .v (.c false [.own 0 q.2]), .v (.c false [.raw (.int .i64 (q.1 : Nat))]), .d, .d, .d, .d, .d, .d, .d, .d, .d, .d, .d, .d, .d, .d, .d, .d, .d, .d, .d, .d]) (fun q => [⟨(pz l b q.1).map lu8, 5, 1, q.2, true⟩]) (fun q bs => []) (fun q => q.1 ≤ l.length) (fun q => l.length - q.1) (0, 0) (Nat.zero_le _) ?_ ?_
  · simp [bI, dh, bM, bP, AV.fits, AC.fits, FB, bn, pz]
  rintro ⟨k, v⟩ hk
  have hk : k ≤ l.length := hk
  simp only [FB, bn]
  by_cases hlt : k < l.length
  · have hm := IG l b (show k + 1 ≤ l.length by omega)
    have hs := AU (b := b) hlt
    have hsl := congrArg List.length hs
    by_cases h0 : 0 < k
    · have h0' : decide ((k : Int) > 0) = true := decide_eq_true (by omega)
      rw [if_pos h0] at hs hsl
      simp only [List.length_append, QJ] at hsl
      repeat' (first | (with_reducible first | refine lW ?_ | refine iW ?_ | refine jQ ?_ | refine jR ?_ | refine lX ?_ | refine tJ ?_ | refine jF ?_ | refine lD ?_ | refine fV ?_ | refine iR ?_ | refine jP ?_ | refine iL ?_ | refine jH ?_ | refine gJ ?_ | refine iK ?_) | ((with_reducible refine iQ ?_ ?_); rfl) | ((with_reducible refine iT ?_ ?_); rfl) | ((with_reducible refine iV ?_ ?_); rfl) | (with_reducible (refine iU rfl ?_ ?_); all_goals (intro hb; have hb' := hb; (try simp only [pkC] at hb'); try (exfalso; omega))) | ((with_reducible refine au ?_); intro K hK) | ((with_reducible refine hK _ ?_); clear hK K) | (with_reducible refine aj ?_ ?_) | ((with_reducible refine aC ?_); simp (disch := first | decide | omega) only [↓pkS, pkW, pkA, undef, List.flatMap_cons, List.flatMap_nil, List.append_nil, jZ, oK, lvD, rC, lcD, lvK, lcK, eU, dY, je, ex, St.put, St.ev, kav, gdA, opI, fG, rF, jA, oh, rE, AV.toD, AC.toD, AV.nw, AC.nw, AC.one, Value.oneCell', eu, bQ, dD, dZ, iw, gB, if_true, if_false, Bool.false_eq_true, jM, D.one, D.ones, D.sz, D.szs, Nat.reduceAdd, Nat.reduceSub, Nat.reduceLeDiff, Nat.reduceEqDiff, reduceIte, pkN, fU, fQ, l9, GCell.dL, GCell.aZ, GCell.dw, kY, h0', rM, List.length_append, List.length_map]) | (first | (with_reducible rfl) | (with_reducible refine lM ?_; kernel_rfl) | exact eY _ | exact gu _ | exact el_ln _ | exact el_tk _ _ | exact el_td _ _ _ | omega | (simp; done) | (simp; omega)) | ((with_reducible refine mV ?_); simp [bC, nG, jw, lY, AC.toD, eu, bQ, dD, dZ, Value.oneCell', kG, gq, kJ, kH, kP, gQ, kR, kQ, wF, wG, fU, fQ, l9, GCell.dL, GCell.aZ, GCell.dw, kY, h0', rM, List.length_append, List.length_map]; first | done | rfl))
      refine dn (k + 1, v + 2) ?_ (show k + 1 ≤ l.length by omega) (show l.length - (k + 1) < l.length - k by omega)
      simp [bI, dh, bM, bP, AV.fits, AC.fits, FB, bn, hs, Ah]
    · have h0' : decide ((k : Int) > 0) = false := decide_eq_false (by omega)
      rw [if_neg h0] at hs hsl
      simp only [List.length_append, QJ, List.length_nil] at hsl
      repeat' (first | (with_reducible first | refine lW ?_ | refine iW ?_ | refine jQ ?_ | refine jR ?_ | refine lX ?_ | refine tJ ?_ | refine jF ?_ | refine lD ?_ | refine fV ?_ | refine iR ?_ | refine jP ?_ | refine iL ?_ | refine jH ?_ | refine gJ ?_ | refine iK ?_) | ((with_reducible refine iQ ?_ ?_); rfl) | ((with_reducible refine iT ?_ ?_); rfl) | ((with_reducible refine iV ?_ ?_); rfl) | (with_reducible (refine iU rfl ?_ ?_); all_goals (intro hb; have hb' := hb; (try simp only [pkC] at hb'); try (exfalso; omega))) | ((with_reducible refine au ?_); intro K hK) | ((with_reducible refine hK _ ?_); clear hK K) | (with_reducible refine aj ?_ ?_) | ((with_reducible refine aC ?_); simp (disch := first | decide | omega) only [↓pkS, pkW, pkA, undef, List.flatMap_cons, List.flatMap_nil, List.append_nil, jZ, oK, lvD, rC, lcD, lvK, lcK, eU, dY, je, ex, St.put, St.ev, kav, gdA, opI, fG, rF, jA, oh, rE, AV.toD, AC.toD, AV.nw, AC.nw, AC.one, Value.oneCell', eu, bQ, dD, dZ, iw, gB, if_true, if_false, Bool.false_eq_true, jM, D.one, D.ones, D.sz, D.szs, Nat.reduceAdd, Nat.reduceSub, Nat.reduceLeDiff, Nat.reduceEqDiff, reduceIte, pkN, fU, fQ, l9, GCell.dL, GCell.aZ, GCell.dw, kY, h0', rM, List.length_append, List.length_map]) | (first | (with_reducible rfl) | (with_reducible refine lM ?_; kernel_rfl) | exact eY _ | exact gu _ | exact el_ln _ | exact el_tk _ _ | exact el_td _ _ _ | omega | (simp; done) | (simp; omega)) | ((with_reducible refine mV ?_); simp [bC, nG, jw, lY, AC.toD, eu, bQ, dD, dZ, Value.oneCell', kG, gq, kJ, kH, kP, gQ, kR, kQ, wF, wG, fU, fQ, l9, GCell.dL, GCell.aZ, GCell.dw, kY, h0', rM, List.length_append, List.length_map]; first | done | rfl))
      refine dn (k + 1, v + 1) ?_ (show k + 1 ≤ l.length by omega) (show l.length - (k + 1) < l.length - k by omega)
      simp [bI, dh, bM, bP, AV.fits, AC.fits, FB, bn, hs, Ah]
  obtain rfl : k = l.length := by omega
  repeat' (first | (with_reducible first | refine lW ?_ | refine iW ?_ | refine jQ ?_ | refine jR ?_ | refine lX ?_ | refine tJ ?_ | refine jF ?_ | refine lD ?_ | refine fV ?_ | refine iR ?_ | refine jP ?_ | refine iL ?_ | refine jH ?_ | refine gJ ?_ | refine iK ?_) | ((with_reducible refine iQ ?_ ?_); rfl) | ((with_reducible refine iT ?_ ?_); rfl) | ((with_reducible refine iV ?_ ?_); rfl) | (with_reducible (refine iU rfl ?_ ?_); all_goals (intro hb; have hb' := hb; (try simp only [pkC] at hb'); try (exfalso; omega))) | ((with_reducible refine au ?_); intro K hK) | ((with_reducible refine hK _ ?_); clear hK K) | (with_reducible refine aj ?_ ?_) | ((with_reducible refine aC ?_); simp (disch := first | decide | omega) only [↓pkS, pkW, pkA, undef, List.flatMap_cons, List.flatMap_nil, List.append_nil, jZ, oK, lvD, rC, lcD, lvK, lcK, eU, dY, je, ex, St.put, St.ev, kav, gdA, opI, fG, rF, jA, oh, rE, AV.toD, AC.toD, AV.nw, AC.nw, AC.one, Value.oneCell', eu, bQ, dD, dZ, iw, gB, if_true, if_false, Bool.false_eq_true, jM, D.one, D.ones, D.sz, D.szs, Nat.reduceAdd, Nat.reduceSub, Nat.reduceLeDiff, Nat.reduceEqDiff, reduceIte, pkN, fU, fQ, l9, GCell.dL, GCell.aZ, GCell.dw, kY, vN]) | (first | (with_reducible rfl) | (with_reducible refine lM ?_; kernel_rfl) | exact eY _ | exact gu _ | exact el_ln _ | exact el_tk _ _ | exact el_td _ _ _ | omega | (simp; done) | (simp; omega)) | ((with_reducible refine mV ?_); simp [bC, nG, jw, lY, AC.toD, eu, bQ, dD, dZ, Value.oneCell', kG, gq, kJ, kH, kP, gQ, kR, kQ, wF, wG, fU, fQ, l9, GCell.dL, GCell.aZ, GCell.dw, kY, vN]; first | done | rfl))
  exact dM ⟨_, rfl, rfl, trivial⟩
end Go.Proofs.YtfjmoicellpnhaaGreat

