/-
  Texts joined: Edit5 Edit6 Edit7 Edp.
-/
import Derived.Test.YtnongnchpplacaaJQ
import Derived.Test.YtnongnchpplacaaJE
namespace Go.Proofs.Ytnongnchpplacaa
open Go.RowKit
set_option linter.unusedSimpArgs false
set_option linter.unusedVariables false
theorem pkE : type_of% (XR @GNb.bH (XR @GNb.bf (XR @GNb.bV (XR @GCell.bH (XR @GCell.bf (XR @GCell.bV (XR @GCell.el (XR @GEdit.bH (XR @GEdit.bf (XR @GEdit.bV (@GEdit.el))))))))))) := XR @GNb.bH (XR @GNb.bf (XR @GNb.bV (XR @GCell.bH (XR @GCell.bf (XR @GCell.bV (XR @GCell.el (XR @GEdit.bH (XR @GEdit.bf (XR @GEdit.bV (@GEdit.el))))))))))
def gy (id : Int) : GCell := ⟨id, 0, 0, ⟨#[]⟩, ⟨#[]⟩, 0⟩
def inv (l : List GCell) (e : GEdit) : GEdit × Bool :=
  if ((app l e).2 != 0) = true then (⟨0, 0, gy 0⟩, false) else
  (if e.kind = 1 then ⟨2, 0, gy e.cell.id⟩
   else match l[(bD l e.cell.id).toNat]? with
    | none => ⟨0, 0, gy 0⟩
    | some o =>
      if e.kind = 2 then ⟨1, bD l e.cell.id, o⟩
      else if e.kind = 3 then ⟨3, bD l e.cell.id, gy e.cell.id⟩
      else if e.kind = 4 then ⟨4, 0, ⟨e.cell.id, 0, 0, o.name, o.code, 0⟩⟩
      else if e.kind = 5 then ⟨5, 0, ⟨e.cell.id, 0, 0, ⟨#[]⟩, ⟨#[]⟩, o.n⟩⟩
      else ⟨6, 0, gy e.cell.id⟩, true)
theorem Uz {l : List GCell} {e : GEdit} (h : (app l e).2 = 0) : dB l = true ∧ inR e.kind 1 6 = true ∧ (e.kind = 1 ∨ ∃ k, ∃ hk : k < l.length, bD l e.cell.id = (k : Int) ∧ l[(bD l e.cell.id).toNat]? = some l[k]) := by
  unfold app at h
  split at h
  · next hv =>
    simp only [Bool.and_eq_true] at hv
    refine ⟨hv.1, hv.2, ?_⟩
    by_cases h1 : e.kind = 1
    · exact Or.inl h1
    · refine Or.inr ?_
      unfold chg at h
      rw [if_neg h1] at h
      rcases dG l e.cell.id with hc | ⟨k, hk, hc⟩
      · rw [hc] at h
        simp at h
      · exact ⟨k, hk, hc, by rw [hc]; simp [hk]⟩
  · simp at h
theorem SC {n : Int} (h : inR n 1 6 = true) : n = 1 ∨ n = 2 ∨ n = 3 ∨ n = 4 ∨ n = 5 ∨ n = 6 := by
  unfold inR at h
  simp at h
  omega
def zF : IC := (.seq (.reg false [⟨(some 2), none, .box (.t 0)⟩, ⟨(some 3), none, .box (.t 1)⟩, ⟨(some 4), none, .alloc [(.int .i64 0), (.int .i64 0), (.int .i64 0), (.int .i64 0), (.int .i64 0), (.string ⟨#[]⟩), (.string ⟨#[]⟩), (.int .i64 0)]⟩, ⟨(some 5), none, .mov (.k (.bool false))⟩]) (.seq (.seq (.reg false [⟨(some 11), none, .load 1 true (.t 2)⟩, ⟨(some 12), none, .load 8 true (.t 3)⟩, ⟨(some 13), none, .call 21 [(.t 11), (.t 12)]⟩, ⟨(some 10), none, .mov (.t 13)⟩, ⟨(some 14), none, .ext 0 (.t 10)⟩, ⟨(some 15), none, .ext 1 (.t 10)⟩, ⟨(some 6), none, .alloc [(.slice none 0 0)]⟩, ⟨none, none, .store 1 (.t 6) (.t 14)⟩, ⟨(some 7), none, .mov (.t 15)⟩]) (.seq (.reg false [⟨(some 16), none, .mov (.t 7)⟩, ⟨(some 17), none, .bin .neq (.t 16) (.k (.int .i64 0))⟩]) (.cond (.t 17) (.seq (.reg false [⟨(some 18), none, .bld [(.int .i64 0), (.int .i64 0), (.int .i64 0), (.int .i64 0), (.int .i64 0), (.string ⟨#[]⟩), (.string ⟨#[]⟩), (.int .i64 0)] []⟩, ⟨none, none, .store 8 (.t 4) (.t 18)⟩, ⟨(some 5), none, .mov (.k (.bool false))⟩]) .ret) .skip))) (.seq (.reg false [⟨(some 19), none, .load 1 true (.t 2)⟩, ⟨(some 20), none, .fad 2 (.t 3)⟩, ⟨(some 21), none, .fad 0 (.t 20)⟩, ⟨(some 22), none, .load 1 false (.t 21)⟩, ⟨(some 23), none, .call 11 [(.t 19), (.t 22)]⟩, ⟨(some 8), none, .mov (.t 23)⟩]) (.seq (.reg false [⟨(some 24), none, .fad 0 (.t 3)⟩, ⟨(some 25), none, .load 1 false (.t 24)⟩, ⟨(some 26), none, .fad 2 (.t 3)⟩, ⟨(some 27), none, .fad 0 (.t 26)⟩, ⟨(some 28), none, .load 1 false (.t 27)⟩, ⟨(some 29), none, .bld [(.int .i64 0), (.int .i64 0), (.int .i64 0), (.string ⟨#[]⟩), (.string ⟨#[]⟩), (.int .i64 0)] [(0, 1, (.t 28))]⟩, ⟨(some 30), none, .bld [(.int .i64 0), (.int .i64 0), (.int .i64 0), (.int .i64 0), (.int .i64 0), (.string ⟨#[]⟩), (.string ⟨#[]⟩), (.int .i64 0)] [(0, 1, (.t 25)), (2, 6, (.t 29))]⟩, ⟨(some 9), none, .alloc [(.int .i64 0), (.int .i64 0), (.int .i64 0), (.int .i64 0), (.int .i64 0), (.string ⟨#[]⟩), (.string ⟨#[]⟩), (.int .i64 0)]⟩, ⟨none, none, .store 8 (.t 9) (.t 30)⟩]) (.seq (.seq (.reg false [⟨(some 31), none, .fad 0 (.t 3)⟩, ⟨(some 32), none, .load 1 false (.t 31)⟩]) (.block 0 (.seq (.reg false [⟨(some 34), none, .bin .eql (.t 32) (.k (.int .i64 1))⟩, ⟨(some 33), none, .mov (.t 34)⟩]) (.cond (.t 33) (.reg false [⟨(some 35), none, .fad 0 (.t 9)⟩, ⟨none, none, .store 1 (.t 35) (.k (.int .i64 2))⟩]) (.seq (.reg false [⟨(some 37), none, .bin .eql (.t 32) (.k (.int .i64 2))⟩, ⟨(some 36), none, .mov (.t 37)⟩]) (.cond (.t 36) (.reg false [⟨(some 38), none, .mov (.t 8)⟩, ⟨(some 39), none, .fad 0 (.t 2)⟩, ⟨(some 40), none, .load 1 false (.t 39)⟩, ⟨(some 41), none, .mov (.t 8)⟩, ⟨(some 42), none, .iad 6 (.t 40) (.t 41)⟩, ⟨(some 43), none, .load 6 true (.t 42)⟩, ⟨(some 44), none, .bld [(.int .i64 0), (.int .i64 0), (.int .i64 0), (.int .i64 0), (.int .i64 0), (.string ⟨#[]⟩), (.string ⟨#[]⟩), (.int .i64 0)] [(0, 1, (.k (.int .i64 1))), (1, 1, (.t 38)), (2, 6, (.t 43))]⟩, ⟨none, none, .store 8 (.t 9) (.t 44)⟩]) (.seq (.reg false [⟨(some 46), none, .bin .eql (.t 32) (.k (.int .i64 3))⟩, ⟨(some 45), none, .mov (.t 46)⟩]) (.cond (.t 45) (.reg false [⟨(some 47), none, .mov (.t 8)⟩, ⟨(some 48), none, .fad 1 (.t 9)⟩, ⟨none, none, .store 1 (.t 48) (.t 47)⟩]) (.seq (.reg false [⟨(some 50), none, .bin .eql (.t 32) (.k (.int .i64 4))⟩, ⟨(some 49), none, .mov (.t 50)⟩]) (.cond (.t 49) (.seq (.reg false [⟨(some 51), none, .fad 0 (.t 2)⟩, ⟨(some 52), none, .load 1 false (.t 51)⟩, ⟨(some 53), none, .mov (.t 8)⟩, ⟨(some 54), none, .iad 6 (.t 52) (.t 53)⟩, ⟨(some 55), none, .fad 3 (.t 54)⟩, ⟨(some 56), none, .load 1 false (.t 55)⟩, ⟨(some 57), none, .fad 2 (.t 9)⟩, ⟨(some 58), none, .fad 3 (.t 57)⟩, ⟨none, none, .store 1 (.t 58) (.t 56)⟩]) (.reg false [⟨(some 59), none, .fad 0 (.t 2)⟩, ⟨(some 60), none, .load 1 false (.t 59)⟩, ⟨(some 61), none, .mov (.t 8)⟩, ⟨(some 62), none, .iad 6 (.t 60) (.t 61)⟩, ⟨(some 63), none, .fad 4 (.t 62)⟩, ⟨(some 64), none, .load 1 false (.t 63)⟩, ⟨(some 65), none, .fad 2 (.t 9)⟩, ⟨(some 66), none, .fad 4 (.t 65)⟩, ⟨none, none, .store 1 (.t 66) (.t 64)⟩])) (.seq (.reg false [⟨(some 68), none, .bin .eql (.t 32) (.k (.int .i64 5))⟩, ⟨(some 67), none, .mov (.t 68)⟩]) (.cond (.t 67) (.reg false [⟨(some 69), none, .fad 0 (.t 2)⟩, ⟨(some 70), none, .load 1 false (.t 69)⟩, ⟨(some 71), none, .mov (.t 8)⟩, ⟨(some 72), none, .iad 6 (.t 70) (.t 71)⟩, ⟨(some 73), none, .fad 5 (.t 72)⟩, ⟨(some 74), none, .load 1 false (.t 73)⟩, ⟨(some 75), none, .fad 2 (.t 9)⟩, ⟨(some 76), none, .fad 5 (.t 75)⟩, ⟨none, none, .store 1 (.t 76) (.t 74)⟩]) .skip)))))))))))) (.seq (.reg false [⟨(some 77), none, .load 8 true (.t 9)⟩, ⟨none, none, .store 8 (.t 4) (.t 77)⟩, ⟨(some 5), none, .mov (.k (.bool true))⟩]) .ret))))))
theorem BU : aF Try.prog (Try.f20.body.getD .skip) = some zF := by kernel_rfl
set_option maxHeartbeats 16000000 in
theorem Aa (x : GNb) (e : GEdit) (hn : x.cells.length ≤ 1048576) (hwl : D.wfs (x.cells.map GCell.toD)) (hew : e.toD.wf) : aK Try.prog 20 [x.toD, e.toD] (.tup [(true, (inv x.cells e).1.toD.acs true), (false, [.raw (.bool (inv x.cells e).2)])]) := by
  refine yY (fn := Try.f20) (r := .cell 4 38) (q := .tmp 5) (by kernel_rfl) (by kernel_rfl) (by kernel_rfl) (by rw [GEdit.bH]; kernel_rfl) BU ?_
  have hap := nX x e hn hwl hew
  change AWP _ _ _ (st0 78 _)
  unfold zF
  cases hc : ((app x.cells e).2 != 0) with
  | true =>
    have hI : inv x.cells e = (⟨0, 0, gy 0⟩, false) := by unfold inv; rw [if_pos hc]
    rw [hI]
    refine sS trivial ?_
    simp only [gy]
    repeat' (first | ((with_reducible refine aG ?_); intro K hK) | ((with_reducible refine hK _ ?_); clear hK K) | (with_reducible refine ak ?_ ?_) | ((with_reducible refine aU ?_); first | (refine jg hap trivial ?_ ?_)) | ((with_reducible refine bG ?_); first | (refine gq hap trivial ?_ ?_)) | ((with_reducible refine aH ?_); refine ss (XR @pkE hc) ?_) | refine nv ?_ | (with_reducible (refine cS rfl ?_ ?_) <;> (intro hb hb'; first | (exfalso; omega) | skip)) | exact aZ | exact aI)
    all_goals exact aS ⟨⟨2, _, rfl, rfl, by simp [dD, dA]⟩, ⟨_, rfl, rfl, trivial⟩⟩
  | false =>
    have hcn := hc
    have hc : (app x.cells e).2 = 0 := by simpa using hc
    obtain ⟨hval, hin, hidx⟩ := Uz hc
    refine sS trivial ?_
    rcases SC hin with hk0 | hk0 | hk0 | hk0 | hk0 | hk0
    · have he : e.kind = 1 := hk0
      have k1 : (e.kind == 1) = true := by rw [he]; rfl
      have k2 : (e.kind == 2) = false := by rw [he]; rfl
      have k3 : (e.kind == 3) = false := by rw [he]; rfl
      have k4 : (e.kind == 4) = false := by rw [he]; rfl
      have k5 : (e.kind == 5) = false := by rw [he]; rfl
      have k6 : (e.kind == 6) = false := by rw [he]; rfl
      have hci := bC x e.cell.id
      have hI : inv x.cells e = (⟨2, 0, gy e.cell.id⟩, true) := by unfold inv; rw [if_neg (by rw [hc]; simp), if_pos he]
      rw [hI]
      simp only [GEdit.bH, gy]
      repeat' (first | ((with_reducible refine aG ?_); intro K hK) | ((with_reducible refine hK _ ?_); clear hK K) | (with_reducible refine ak ?_ ?_) | ((with_reducible refine aU ?_); first | (refine jg hap trivial ?_ ?_) | (refine jg hci trivial ?_ ?_)) | ((with_reducible refine bG ?_); first | (refine gq hap trivial ?_ ?_) | (refine gq hci trivial ?_ ?_)) | ((with_reducible refine aH ?_); refine ss (XR @pkE (XR k1 (XR k2 (XR k3 (XR k4 (XR k5 (XR k6 hcn))))))) ?_) | refine nv ?_ | (with_reducible (refine cS rfl ?_ ?_) <;> (intro hb hb'; first | (exfalso; omega) | skip)) | exact aZ | exact aI)
      all_goals exact aS ⟨⟨2, _, rfl, rfl, by simp [dD, dA, he]⟩, ⟨_, rfl, rfl, trivial⟩⟩
    · have he : e.kind = 2 := hk0
      have k1 : (e.kind == 1) = false := by rw [he]; rfl
      have k2 : (e.kind == 2) = true := by rw [he]; rfl
      have k3 : (e.kind == 3) = false := by rw [he]; rfl
      have k4 : (e.kind == 4) = false := by rw [he]; rfl
      have k5 : (e.kind == 5) = false := by rw [he]; rfl
      have k6 : (e.kind == 6) = false := by rw [he]; rfl
      rcases hidx with h9 | ⟨k, hk, hcx, hge⟩
      · omega
      have hci := bC x e.cell.id
      rw [hcx] at hci
      have hI : inv x.cells e = (⟨1, (k : Int), x.cells[k]⟩, true) := by
        unfold inv
        rw [if_neg (by rw [hc]; simp), if_neg (by omega), hge]
        simp [he, hcx]
      rw [hI]
      simp only [GEdit.bH, gy]
      repeat' (first | ((with_reducible refine aG ?_); intro K hK) | ((with_reducible refine hK _ ?_); clear hK K) | (with_reducible refine ak ?_ ?_) | ((with_reducible refine aU ?_); first | (refine jg hap trivial ?_ ?_) | (refine jg hci trivial ?_ ?_)) | ((with_reducible refine bG ?_); first | (refine gq hap trivial ?_ ?_) | (refine gq hci trivial ?_ ?_)) | ((with_reducible refine aH ?_); refine ss (XR @pkE (XR k1 (XR k2 (XR k3 (XR k4 (XR k5 (XR k6 hcn))))))) ?_) | refine nv ?_ | (with_reducible (refine cS rfl ?_ ?_) <;> (intro hb hb'; first | (exfalso; omega) | skip)) | exact aZ | exact aI)
      all_goals exact aS ⟨⟨2, _, rfl, rfl, by simp [dD, dA, he]⟩, ⟨_, rfl, rfl, trivial⟩⟩
    · have he : e.kind = 3 := hk0
      have k1 : (e.kind == 1) = false := by rw [he]; rfl
      have k2 : (e.kind == 2) = false := by rw [he]; rfl
      have k3 : (e.kind == 3) = true := by rw [he]; rfl
      have k4 : (e.kind == 4) = false := by rw [he]; rfl
      have k5 : (e.kind == 5) = false := by rw [he]; rfl
      have k6 : (e.kind == 6) = false := by rw [he]; rfl
      rcases hidx with h9 | ⟨k, hk, hcx, hge⟩
      · omega
      have hci := bC x e.cell.id
      rw [hcx] at hci
      have hI : inv x.cells e = (⟨3, (k : Int), gy e.cell.id⟩, true) := by
        unfold inv
        rw [if_neg (by rw [hc]; simp), if_neg (by omega), hge]
        simp [he, hcx]
      rw [hI]
      simp only [GEdit.bH, gy]
      repeat' (first | ((with_reducible refine aG ?_); intro K hK) | ((with_reducible refine hK _ ?_); clear hK K) | (with_reducible refine ak ?_ ?_) | ((with_reducible refine aU ?_); first | (refine jg hap trivial ?_ ?_) | (refine jg hci trivial ?_ ?_)) | ((with_reducible refine bG ?_); first | (refine gq hap trivial ?_ ?_) | (refine gq hci trivial ?_ ?_)) | ((with_reducible refine aH ?_); refine ss (XR @pkE (XR k1 (XR k2 (XR k3 (XR k4 (XR k5 (XR k6 hcn))))))) ?_) | refine nv ?_ | (with_reducible (refine cS rfl ?_ ?_) <;> (intro hb hb'; first | (exfalso; omega) | skip)) | exact aZ | exact aI)
      all_goals exact aS ⟨⟨2, _, rfl, rfl, by simp [dD, dA, he]⟩, ⟨_, rfl, rfl, trivial⟩⟩
    · have he : e.kind = 4 := hk0
      have k1 : (e.kind == 1) = false := by rw [he]; rfl
      have k2 : (e.kind == 2) = false := by rw [he]; rfl
      have k3 : (e.kind == 3) = false := by rw [he]; rfl
      have k4 : (e.kind == 4) = true := by rw [he]; rfl
      have k5 : (e.kind == 5) = false := by rw [he]; rfl
      have k6 : (e.kind == 6) = false := by rw [he]; rfl
      rcases hidx with h9 | ⟨k, hk, hcx, hge⟩
      · omega
      have hci := bC x e.cell.id
      rw [hcx] at hci
      have hI : inv x.cells e = (⟨4, 0, ⟨e.cell.id, 0, 0, x.cells[k].name, x.cells[k].code, 0⟩⟩, true) := by
        unfold inv
        rw [if_neg (by rw [hc]; simp), if_neg (by omega), hge]
        simp [he, hcx]
      rw [hI]
      simp only [GEdit.bH, gy]
      repeat' (first | ((with_reducible refine aG ?_); intro K hK) | ((with_reducible refine hK _ ?_); clear hK K) | (with_reducible refine ak ?_ ?_) | ((with_reducible refine aU ?_); first | (refine jg hap trivial ?_ ?_) | (refine jg hci trivial ?_ ?_)) | ((with_reducible refine bG ?_); first | (refine gq hap trivial ?_ ?_) | (refine gq hci trivial ?_ ?_)) | ((with_reducible refine aH ?_); refine ss (XR @pkE (XR k1 (XR k2 (XR k3 (XR k4 (XR k5 (XR k6 hcn))))))) ?_) | refine nv ?_ | (with_reducible (refine cS rfl ?_ ?_) <;> (intro hb hb'; first | (exfalso; omega) | skip)) | exact aZ | exact aI)
      all_goals exact aS ⟨⟨2, _, rfl, rfl, by simp [dD, dA, he]⟩, ⟨_, rfl, rfl, trivial⟩⟩
    · have he : e.kind = 5 := hk0
      have k1 : (e.kind == 1) = false := by rw [he]; rfl
      have k2 : (e.kind == 2) = false := by rw [he]; rfl
      have k3 : (e.kind == 3) = false := by rw [he]; rfl
      have k4 : (e.kind == 4) = false := by rw [he]; rfl
      have k5 : (e.kind == 5) = true := by rw [he]; rfl
      have k6 : (e.kind == 6) = false := by rw [he]; rfl
      rcases hidx with h9 | ⟨k, hk, hcx, hge⟩
      · omega
      have hci := bC x e.cell.id
      rw [hcx] at hci
      have hI : inv x.cells e = (⟨5, 0, ⟨e.cell.id, 0, 0, ⟨#[]⟩, ⟨#[]⟩, x.cells[k].n⟩⟩, true) := by
        unfold inv
        rw [if_neg (by rw [hc]; simp), if_neg (by omega), hge]
        simp [he, hcx]
      rw [hI]
      simp only [GEdit.bH, gy]
      repeat' (first | ((with_reducible refine aG ?_); intro K hK) | ((with_reducible refine hK _ ?_); clear hK K) | (with_reducible refine ak ?_ ?_) | ((with_reducible refine aU ?_); first | (refine jg hap trivial ?_ ?_) | (refine jg hci trivial ?_ ?_)) | ((with_reducible refine bG ?_); first | (refine gq hap trivial ?_ ?_) | (refine gq hci trivial ?_ ?_)) | ((with_reducible refine aH ?_); refine ss (XR @pkE (XR k1 (XR k2 (XR k3 (XR k4 (XR k5 (XR k6 hcn))))))) ?_) | refine nv ?_ | (with_reducible (refine cS rfl ?_ ?_) <;> (intro hb hb'; first | (exfalso; omega) | skip)) | exact aZ | exact aI)
      all_goals exact aS ⟨⟨2, _, rfl, rfl, by simp [dD, dA, he]⟩, ⟨_, rfl, rfl, trivial⟩⟩
    · have he : e.kind = 6 := hk0
      have k1 : (e.kind == 1) = false := by rw [he]; rfl
      have k2 : (e.kind == 2) = false := by rw [he]; rfl
      have k3 : (e.kind == 3) = false := by rw [he]; rfl
      have k4 : (e.kind == 4) = false := by rw [he]; rfl
      have k5 : (e.kind == 5) = false := by rw [he]; rfl
      have k6 : (e.kind == 6) = true := by rw [he]; rfl
      rcases hidx with h9 | ⟨k, hk, hcx, hge⟩
      · omega
      have hci := bC x e.cell.id
      rw [hcx] at hci
      have hI : inv x.cells e = (⟨6, 0, gy e.cell.id⟩, true) := by
        unfold inv
        rw [if_neg (by rw [hc]; simp), if_neg (by omega), hge]
        simp [he, hcx]
      rw [hI]
      simp only [GEdit.bH, gy]
      repeat' (first | ((with_reducible refine aG ?_); intro K hK) | ((with_reducible refine hK _ ?_); clear hK K) | (with_reducible refine ak ?_ ?_) | ((with_reducible refine aU ?_); first | (refine jg hap trivial ?_ ?_) | (refine jg hci trivial ?_ ?_)) | ((with_reducible refine bG ?_); first | (refine gq hap trivial ?_ ?_) | (refine gq hci trivial ?_ ?_)) | ((with_reducible refine aH ?_); refine ss (XR @pkE (XR k1 (XR k2 (XR k3 (XR k4 (XR k5 (XR k6 hcn))))))) ?_) | refine nv ?_ | (with_reducible (refine cS rfl ?_ ?_) <;> (intro hb hb'; first | (exfalso; omega) | skip)) | exact aZ | exact aI)
      all_goals exact aS ⟨⟨2, _, rfl, rfl, by simp [dD, dA, he]⟩, ⟨_, rfl, rfl, trivial⟩⟩
theorem KE (l : List GCell) (e : GEdit) : (app l e).1.length ≤ max l.length 9 := by
  cases hv : dB l with
  | false => simp [app, hv]; omega
  | true =>
    have := OD l e
    have := kJ hv
    omega
theorem zA : ∀ {l : List GCell} {id : Int} (k : Nat), (∀ x ∈ l, x.id ≠ id) → fC l id k = -1
  | [], _, _, _ => rfl
  | c :: r, id, k, h => by
    have h1 : (c.id == id) = false := by simpa using h c (by simp)
    rw [fC, h1]
    exact zA (k + 1) fun x hx => h x (by simp [hx])
theorem zB : ∀ {l1 l2 : List GCell} {x : GCell} (k : Nat), (∀ y ∈ l1, y.id ≠ x.id) → fC (l1 ++ x :: l2) x.id k = ((k + l1.length : Nat) : Int)
  | [], l2, x, k, _ => by simp [fC]
  | c :: r, l2, x, k, h => by
    have h1 : (c.id == x.id) = false := by simpa using h c (by simp)
    rw [List.cons_append, fC, h1]
    show fC (r ++ x :: l2) x.id (k + 1) = _
    rw [zB (k + 1) fun y hy => h y (by simp [hy])]
    simp only [List.length_cons]
    congr 1
    omega
theorem mD {l1 l2 : List GCell} {x : GCell} {id : Int} (hx : x.id = id) (h : ∀ y ∈ l1, y.id ≠ id) : bD (l1 ++ x :: l2) id = (l1.length : Int) := by
  subst hx
  have := zB (l2 := l2) 0 h
  simpa [bD] using this
theorem Kt {l : List GCell} {id : Int} (h : ∀ x ∈ l, x.id ≠ id) : bD l id = -1 := zA 0 h
theorem vO : ∀ {l : List GCell} {id : Int} {k : Nat}, 0 ≤ fC l id k → ∃ l1 x l2, l = l1 ++ x :: l2 ∧ x.id = id ∧ (∀ y ∈ l1, y.id ≠ id) ∧ fC l id k = ((k + l1.length : Nat) : Int)
  | [], _, _, h => by simp [fC] at h
  | c :: r, id, k, h => by
    rw [fC] at h ⊢
    split at h
    · next hc => exact ⟨[], c, r, rfl, by simpa using hc, by simp, by rw [if_pos hc]; simp⟩
    · next hc =>
      obtain ⟨l1, x, l2, e, hx, hn, hk⟩ := vO h
      refine ⟨c :: l1, x, l2, by rw [e]; rfl, hx, ?_, ?_⟩
      · intro y hy
        rcases List.mem_cons.1 hy with rfl | hy
        · simpa using hc
        · exact hn y hy
      · rw [if_neg hc, hk]
        simp only [List.length_cons]
        congr 1
        omega
theorem DV {l : List GCell} {id : Int} (h : 0 ≤ bD l id) : ∃ l1 x l2, l = l1 ++ x :: l2 ∧ x.id = id ∧ (∀ y ∈ l1, y.id ≠ id) ∧ bD l id = (l1.length : Int) := by
  obtain ⟨l1, x, l2, e, hx, hn, hk⟩ := vO h
  exact ⟨l1, x, l2, e, hx, hn, by unfold bD; rw [hk]; simp⟩
theorem vI {l : List GCell} : ∀ {r : List GCell} {k : Nat}, dW l r k = true ↔ ∀ (i : Nat) (h : i < r.length), bI r[i] = true ∧ bD l r[i].id = ((k + i : Nat) : Int)
  | [], _ => by simp [dW]
  | c :: r, k => by
    rw [dW, Bool.and_eq_true, Bool.and_eq_true, vI]
    constructor
    · rintro ⟨⟨h1, h2⟩, h3⟩ i hi
      cases i with
      | zero => exact ⟨h1, by simpa using h2⟩
      | succ i =>
        have := h3 i (by simpa using hi)
        refine ⟨by simpa using this.1, ?_⟩
        have h4 := this.2
        rw [List.getElem_cons_succ, h4]
        congr 1
        omega
    · intro h
      refine ⟨⟨(h 0 (by simp)).1, by have := (h 0 (by simp)).2; simpa using this⟩, fun i hi => ?_⟩
      have := h (i + 1) (by simpa using hi)
      rw [List.getElem_cons_succ] at this
      refine ⟨this.1, ?_⟩
      rw [this.2]
      congr 1
      omega
theorem sZ {l : List GCell} : dB l = true ↔ (∀ x ∈ l, bI x = true) ∧ (l.map GCell.id).Nodup ∧ l.length ≤ 8 := by
  unfold dB
  rw [Bool.and_eq_true, vI, decide_eq_true_eq]
  constructor
  · rintro ⟨h1, h2⟩
    refine ⟨fun x hx => ?_, ?_, by omega⟩
    · obtain ⟨i, hi, rfl⟩ := List.getElem_of_mem hx
      exact (h1 i hi).1
    · rw [List.nodup_iff_pairwise_ne, List.pairwise_iff_getElem]
      intro i j hi hj hij e
      simp only [List.getElem_map] at e
      have a := (h1 i (by simpa using hi)).2
      have b := (h1 j (by simpa using hj)).2
      rw [e, b] at a
      omega
  · rintro ⟨h1, h2, h3⟩
    refine ⟨fun i hi => ⟨h1 _ (List.getElem_mem hi), ?_⟩, by omega⟩
    have e : l = l.take i ++ l[i] :: l.drop (i + 1) := by rw [← List.drop_eq_getElem_cons hi, List.take_append_drop]
    have hn : ∀ y ∈ l.take i, y.id ≠ l[i].id := by
      intro y hy e2
      obtain ⟨j, hj, rfl⟩ := List.getElem_of_mem hy
      simp only [List.length_take] at hj
      rw [List.getElem_take] at e2
      rw [List.nodup_iff_pairwise_ne, List.pairwise_iff_getElem] at h2
      exact h2 j i (by simp; omega) (by simpa using hi) (by omega) (by simpa using e2)
    have := mD (l2 := l.drop (i + 1)) (x := l[i]) rfl hn
    rw [← e] at this
    rw [this, List.length_take, Nat.min_eq_left (by omega)]
    simp
theorem nI (l : List GCell) (k : Nat) (c : GCell) : l7 l k c = l.take k ++ c :: l.drop k := by simp [l7]
theorem CU (l1 l2 : List GCell) (x : GCell) : gV (l1 ++ x :: l2) l1.length = l1 ++ l2 := by
  unfold gV
  rw [List.take_left, List.drop_append]
  simp
theorem MR (l1 l2 : List GCell) (x y : GCell) : (l1 ++ x :: l2).set l1.length y = l1 ++ y :: l2 := by simp
theorem vg (l1 l2 : List GCell) (x : GCell) : (l1 ++ x :: l2)[l1.length]? = some x := by simp
theorem jS {l1 l2 : List GCell} {x : GCell} : dB (l1 ++ x :: l2) = true ↔ bI x = true ∧ (∀ y ∈ l1 ++ l2, y.id ≠ x.id) ∧ (∀ y ∈ l1 ++ l2, bI y = true) ∧ ((l1 ++ l2).map GCell.id).Nodup ∧ (l1 ++ l2).length ≤ 7 := by
  rw [sZ]
  have hp : (l1 ++ x :: l2).Perm (x :: (l1 ++ l2)) := List.perm_middle
  rw [(hp.map GCell.id).nodup_iff, List.map_cons, List.nodup_cons, hp.length_eq, List.length_cons]
  constructor
  · rintro ⟨h1, ⟨h2, h3⟩, h4⟩
    exact ⟨h1 x (by simp), fun y hy e => h2 (e ▸ List.mem_map_of_mem hy), fun y hy => h1 y (hp.mem_iff.2 (by simp only [List.mem_cons]; exact Or.inr hy)), h3, by omega⟩
  · rintro ⟨h1, h2, h3, h4, h5⟩
    refine ⟨fun y hy => ?_, ⟨fun hm => ?_, h4⟩, by omega⟩
    · rcases List.mem_cons.1 (hp.mem_iff.1 hy) with rfl | hy
      · exact h1
      · exact h3 y hy
    · obtain ⟨y, hy, e⟩ := List.mem_map.1 hm
      exact h2 y hy e
theorem Ed {l : List GCell} (h : dB l = true) {c : GCell} (hc : c ∈ l) : ∃ k, k < l.length ∧ bD l c.id = (k : Int) ∧ l[k]? = some c := by
  obtain ⟨l1, l2, rfl⟩ := List.append_of_mem hc
  have h2 := (jS.1 h).2.1
  exact ⟨l1.length, by simp, mD rfl fun y hy => h2 y (by simp [hy]), vg l1 l2 c⟩
theorem CQ (x : GCell) (e : GEdit) : (bg x e).id = x.id := by
  unfold bg
  repeat' split
  all_goals rfl
theorem CS {x : GCell} {e : GEdit} (h : aV x e = 0) : bI (bg x e) = true := by
  unfold aV at h
  repeat' split at h
  all_goals first | assumption | (simp at h; done)
inductive Done (l : List GCell) (e : GEdit) : List GCell → Prop
  | ins (h1 : e.kind = 1) (hv : bI e.cell = true) (hn : ∀ y ∈ l, y.id ≠ e.cell.id) (hl : l.length < 8) : Done l e (l7 l (fP e.pos l.length) e.cell)
  | del (l1 l2 : List GCell) (x : GCell) (h1 : e.kind = 2) (hl : l = l1 ++ x :: l2) (hx : x.id = e.cell.id) : Done l e (l1 ++ l2)
  | mov (l1 l2 : List GCell) (x : GCell) (h1 : e.kind = 3) (hl : l = l1 ++ x :: l2) (hx : x.id = e.cell.id) : Done l e (l7 (l1 ++ l2) (fP e.pos (l1 ++ l2).length) x)
  | set (l1 l2 : List GCell) (x : GCell) (h1 : e.kind = 4 ∨ e.kind = 5 ∨ e.kind = 6) (hl : l = l1 ++ x :: l2) (hx : x.id = e.cell.id) (hc : aV x e = 0) : Done l e (l1 ++ bg x e :: l2)
theorem KF {l : List GCell} {e : GEdit} (h : (app l e).2 = 0) : dB l = true ∧ Done l e (app l e).1 := by
  obtain ⟨hv, hk, _⟩ := Uz h
  have h6 := SC hk
  refine ⟨hv, ?_⟩
  unfold app at h ⊢
  rw [if_pos (by rw [hv, hk]; rfl)] at h ⊢
  unfold chg at h ⊢
  by_cases h1 : e.kind = 1
  · rw [if_pos h1] at h ⊢
    split at h
    · next hc =>
      split at h
      · simp at h
      · next hi =>
        split at h
        · simp at h
        · next hl =>
          rw [if_pos hc, if_neg hi, if_neg hl]
          refine .ins h1 hc (fun y hy e2 => ?_) (by omega)
          obtain ⟨k, _, hk, _⟩ := Ed hv hy
          rw [e2] at hk
          omega
    · simp at h
  · rw [if_neg h1] at h ⊢
    split at h
    · simp at h
    · next hi =>
      rw [if_neg hi]
      obtain ⟨l1, x, l2, el, hx, _, hk⟩ := DV (l := l) (id := e.cell.id) (by omega)
      rw [hk] at h ⊢
      subst el
      simp only [Int.toNat_natCast, vg, CU, MR] at h ⊢
      split
      · next h2 => exact .del l1 l2 x h2 rfl hx
      · next h2 =>
        rw [if_neg h2] at h
        split
        · next h3 => exact .mov l1 l2 x h3 rfl hx
        · next h3 =>
          rw [if_neg h3] at h
          split
          · next hc => exact .set l1 l2 x (by rcases h6 with q | q | q | q | q | q <;> simp_all) rfl hx hc
          · next hc => rw [if_neg hc] at h; exact absurd h hc
theorem Xd {l : List GCell} {e : GEdit} (h : (app l e).2 ≠ 0) : (app l e).1 = l := by
  unfold app at h ⊢
  split
  · next hg =>
    rw [if_pos hg] at h
    unfold chg at h ⊢
    repeat' split
    all_goals first | rfl | (simp_all; done)
  · rfl
theorem CV {l l' : List GCell} {e : GEdit} (hv : dB l = true) (h : Done l e l') : dB l' = true := by
  cases h with
  | ins h1 hc hn hl =>
    rw [nI]
    obtain ⟨g1, g2, g3⟩ := sZ.1 hv
    exact jS.2 ⟨hc, by rw [List.take_append_drop]; exact hn, by rw [List.take_append_drop]; exact g1, by rw [List.take_append_drop]; exact g2, by rw [List.take_append_drop]; omega⟩
  | del l1 l2 x h1 hl hx =>
    subst hl
    obtain ⟨g1, g2, g3, g4, g5⟩ := jS.1 hv
    exact sZ.2 ⟨g3, g4, by omega⟩
  | mov l1 l2 x h1 hl hx =>
    subst hl
    rw [nI]
    obtain ⟨g1, g2, g3, g4, g5⟩ := jS.1 hv
    exact jS.2 ⟨g1, by rw [List.take_append_drop]; exact g2, by rw [List.take_append_drop]; exact g3, by rw [List.take_append_drop]; exact g4, by rw [List.take_append_drop]; exact g5⟩
  | set l1 l2 x h1 hl hx hc =>
    subst hl
    obtain ⟨g1, g2, g3, g4, g5⟩ := jS.1 hv
    exact jS.2 ⟨CS hc, by rw [CQ]; exact g2, g3, g4, g5⟩
theorem TY {l l' : List GCell} {e : GEdit} (h : Done l e l') {c : GCell} (hc : c ∈ l) (hn : c.id ≠ e.cell.id) : c ∈ l' := by
  cases h with
  | ins h1 hv hn' hl =>
    rw [nI]
    rw [← List.take_append_drop (fP e.pos l.length) l] at hc
    simp only [List.mem_append, List.mem_cons] at hc ⊢
    rcases hc with h | h
    · exact Or.inl h
    · exact Or.inr (Or.inr h)
  | del l1 l2 x h1 hl hx =>
    subst hl
    simp only [List.mem_append, List.mem_cons] at hc ⊢
    rcases hc with h | rfl | h
    · exact Or.inl h
    · exact absurd hx hn
    · exact Or.inr h
  | mov l1 l2 x h1 hl hx =>
    subst hl
    have hc' : c ∈ l1 ++ l2 := by
      simp only [List.mem_append, List.mem_cons] at hc ⊢
      rcases hc with h | rfl | h
      · exact Or.inl h
      · exact absurd hx hn
      · exact Or.inr h
    rw [nI]
    rw [← List.take_append_drop (fP e.pos (l1 ++ l2).length) (l1 ++ l2)] at hc'
    simp only [List.mem_append (s := List.take _ _), List.mem_append, List.mem_cons] at hc' ⊢
    rcases hc' with h | h
    · exact Or.inl h
    · exact Or.inr (Or.inr h)
  | set l1 l2 x h1 hl hx hc' =>
    subst hl
    simp only [List.mem_append, List.mem_cons] at hc ⊢
    rcases hc with h | rfl | h
    · exact Or.inl h
    · exact absurd hx hn
    · exact Or.inr (Or.inr h)
theorem WZ {l : List GCell} {e : GEdit} (h : (app l e).2 = 0) : dB (app l e).1 = true ∧ ∀ c ∈ l, c.id ≠ e.cell.id → ∃ k, k < (app l e).1.length ∧ bD (app l e).1 c.id = (k : Int) ∧ (app l e).1[k]? = some c := by
  obtain ⟨hv, hd⟩ := KF h
  have hv' := CV hv hd
  exact ⟨hv', fun c hc hn => Ed hv' (TY hd hc hn)⟩
theorem Xe {l : List GCell} {e : GEdit} (hv : dB l = true) (hk : 1 ≤ e.kind ∧ e.kind ≤ 6) : app l e = chg l e := by
  unfold app
  rw [if_pos]
  rw [hv, show inR e.kind 1 6 = true by unfold inR; simp; omega]
  rfl
theorem xP {l1 l2 : List GCell} {x : GCell} {e : GEdit} (h1 : e.kind ≠ 1) (hx : x.id = e.cell.id) (hn : ∀ y ∈ l1, y.id ≠ e.cell.id) :
    chg (l1 ++ x :: l2) e = if e.kind = 2 then (l1 ++ l2, 0) else if e.kind = 3 then (l7 (l1 ++ l2) (fP e.pos (l1 ++ l2).length) x, 0) else if aV x e = 0 then (l1 ++ bg x e :: l2, 0) else (l1 ++ x :: l2, aV x e) := by
  unfold chg
  rw [if_neg h1, mD hx hn, if_neg (by omega)]
  simp only [Int.toNat_natCast, vg, CU, MR]
theorem EO {k n : Nat} (h : k ≤ n) : fP (k : Int) n = k := by unfold fP; omega
theorem Bh (l1 l2 : List GCell) (x : GCell) : l7 (l1 ++ l2) l1.length x = l1 ++ x :: l2 := by
  rw [nI, List.take_left, List.drop_left]
theorem vJ {x : GCell} {v : Int} (h : bI x = true) (h1 : 1 ≤ v) (h2 : v ≤ 999) : bI ⟨x.id, v, x.kind, x.name, x.code, x.n⟩ = true := by
  unfold bI at h ⊢
  simp only [Bool.and_eq_true] at h ⊢
  refine ⟨⟨⟨h.1.1.1, by unfold inR; simp; omega⟩, h.1.2⟩, ?_⟩
  have := h.2
  unfold lN at this ⊢
  exact this
theorem KW {x : GCell} (h : bI x = true) : 1 ≤ x.ver ∧ x.ver ≤ 999 := by
  unfold bI inR at h
  simp at h
  omega
theorem NW {l : List GCell} {e : GEdit} (h : (app l e).2 = 0) : (app (app l e).1 (inv l e).1).2 = 6 ∨ ((app (app l e).1 (inv l e).1).2 = 0 ∧ (app (app l e).1 (inv l e).1).1.map GCell.unver = l.map GCell.unver) := by
  obtain ⟨hv, hd⟩ := KF h
  have hv' := CV hv hd
  have hinv : inv l e = (if e.kind = 1 then ⟨2, 0, gy e.cell.id⟩
   else match l[(bD l e.cell.id).toNat]? with
    | none => ⟨0, 0, gy 0⟩
    | some o =>
      if e.kind = 2 then ⟨1, bD l e.cell.id, o⟩
      else if e.kind = 3 then ⟨3, bD l e.cell.id, gy e.cell.id⟩
      else if e.kind = 4 then ⟨4, 0, ⟨e.cell.id, 0, 0, o.name, o.code, 0⟩⟩
      else if e.kind = 5 then ⟨5, 0, ⟨e.cell.id, 0, 0, ⟨#[]⟩, ⟨#[]⟩, o.n⟩⟩
      else ⟨6, 0, gy e.cell.id⟩, true) := by
    unfold inv
    rw [h]
    rfl
  revert hd hv'
  generalize (app l e).1 = l'
  intro hd hv'
  rw [hinv]
  clear hinv
  have go : ∀ b : GEdit, (1 ≤ b.kind ∧ b.kind ≤ 6) → ((chg l' b).2 = 6 ∨ ((chg l' b).2 = 0 ∧ (chg l' b).1.map GCell.unver = l.map GCell.unver)) → ((app l' b).2 = 6 ∨ ((app l' b).2 = 0 ∧ (app l' b).1.map GCell.unver = l.map GCell.unver)) := by
    intro b hb hc
    rw [Xe hv' hb]
    exact hc
  cases hd with
  | ins h1 hc hn hl =>
    rw [if_pos h1]
    refine go _ (by simp) (Or.inr ?_)
    rw [nI]
    dsimp only
    rw [xP (e := ⟨2, 0, gy e.cell.id⟩) (by simp) (by rfl) (fun y hy => hn y (List.mem_of_mem_take hy))]
    simp
  | del l1 l2 x h1 hl hx =>
    subst hl
    obtain ⟨g1, g2, g3, g4, g5⟩ := jS.1 hv
    rw [if_neg (by omega), mD hx (fun y hy => by rw [← hx]; exact g2 y (by simp [hy]))]
    simp only [Int.toNat_natCast, vg, if_pos h1]
    refine go _ (by simp) (Or.inr ?_)
    unfold chg
    rw [if_pos rfl]
    simp only
    rw [if_pos g1, Kt g2, if_neg (by omega), if_neg (by omega), EO (by simp), Bh]
    exact ⟨rfl, rfl⟩
  | mov l1 l2 x h1 hl hx =>
    subst hl
    obtain ⟨g1, g2, g3, g4, g5⟩ := jS.1 hv
    rw [if_neg (by omega), mD hx (fun y hy => by rw [← hx]; exact g2 y (by simp [hy]))]
    simp only [Int.toNat_natCast, vg, if_pos h1, if_neg (show ¬ e.kind = 2 by omega)]
    refine go _ (by simp) (Or.inr ?_)
    rw [nI, xP (by simp) (by exact hx) (fun y hy => by show y.id ≠ e.cell.id; rw [← hx]; exact g2 y (List.mem_of_mem_take hy))]
    rw [List.take_append_drop]
    rw [if_neg (show ¬ (3 : Int) = 2 by omega), if_pos rfl]
    dsimp only
    rw [EO (by simp), Bh]
    exact ⟨rfl, rfl⟩
  | set l1 l2 x h1 hl hx hc =>
    subst hl
    obtain ⟨g1, g2, g3, g4, g5⟩ := jS.1 hv
    have gv := KW g1
    rw [if_neg (by omega), mD hx (fun y hy => by rw [← hx]; exact g2 y (by simp [hy]))]
    simp only [Int.toNat_natCast, vg, if_neg (show ¬ e.kind = 2 by omega), if_neg (show ¬ e.kind = 3 by omega)]
    have hn : ∀ y ∈ l1, y.id ≠ e.cell.id := fun y hy => by rw [← hx]; exact g2 y (by simp [hy])
    have hid : (bg x e).id = e.cell.id := by rw [CQ, hx]
    rcases h1 with h1 | h1 | h1
    · rw [if_pos h1]
      refine go _ (by simp) ?_
      rw [xP (by simp) (by exact hid) (by exact hn)]
      have hN : bg x e = ⟨x.id, x.ver + 1, x.kind, e.cell.name, e.cell.code, x.n⟩ := by simp [bg, h1]
      have hk : ¬ (x.kind == 3) = true ∧ ¬ (x.ver == 999) = true := by
        unfold aV at hc
        rw [if_pos (by rw [h1]; rfl)] at hc
        constructor <;> intro hb <;> simp [hb] at hc
        split at hc <;> simp at hc
      simp only [if_neg (show ¬ (4 : Int) = 2 by omega), if_neg (show ¬ (4 : Int) = 3 by omega)]
      have hN2 : bg (bg x e) ⟨4, 0, ⟨e.cell.id, 0, 0, x.name, x.code, 0⟩⟩ = ⟨x.id, x.ver + 1 + 1, x.kind, x.name, x.code, x.n⟩ := by rw [hN]; simp [bg]
      have hC2 : aV (bg x e) ⟨4, 0, ⟨e.cell.id, 0, 0, x.name, x.code, 0⟩⟩ = if (x.ver + 1 == 999) = true then 6 else 0 := by
        unfold aV
        rw [hN2]
        rw [hN]
        simp only [if_neg hk.1]
        simp only [beq_self_eq_true, if_true]
        split
        · rfl
        · next h9 =>
          have h9' : x.ver + 1 ≠ 999 := by simpa using h9
          have h8' : x.ver ≠ 999 := by simpa using hk.2
          rw [if_pos (vJ g1 (by omega) (by omega))]
      rw [hC2]
      by_cases h9 : (x.ver + 1 == 999) = true
      · rw [if_pos h9]
        exact Or.inl (by simp)
      · rw [if_neg h9]
        refine Or.inr ⟨by simp, ?_⟩
        simp only [if_true]
        rw [hN2]
        simp [GCell.unver]
    · rw [if_neg (by omega), if_pos h1]
      refine go _ (by simp) (Or.inr ?_)
      rw [xP (by simp) (by exact hid) (by exact hn)]
      have hN : bg x e = ⟨x.id, x.ver, x.kind, x.name, x.code, e.cell.n⟩ := by simp [bg, h1]
      have hk : (x.kind == 3) = true := by
        unfold aV at hc
        rw [if_neg (by rw [h1]; decide), if_pos (by rw [h1]; rfl)] at hc
        split at hc
        · assumption
        · simp at hc
      simp only [if_neg (show ¬ (5 : Int) = 2 by omega), if_neg (show ¬ (5 : Int) = 3 by omega)]
      have hN2 : bg (bg x e) ⟨5, 0, ⟨e.cell.id, 0, 0, ⟨#[]⟩, ⟨#[]⟩, x.n⟩⟩ = x := by rw [hN]; simp [bg]
      have hC2 : aV (bg x e) ⟨5, 0, ⟨e.cell.id, 0, 0, ⟨#[]⟩, ⟨#[]⟩, x.n⟩⟩ = 0 := by
        unfold aV
        rw [hN2, if_neg (by simp), if_pos (by simp)]
        rw [hN]
        simp only [hk, if_true, g1]
      rw [hC2, hN2]
      simp
    · rw [if_neg (by omega), if_neg (by omega)]
      refine go _ (by simp) ?_
      rw [xP (by simp) (by exact hid) (by exact hn)]
      have hN : bg x e = ⟨x.id, x.ver + 1, x.kind, x.name, x.code, x.n⟩ := by simp [bg, h1]
      have hk : (x.kind == 2) = true ∧ ¬ (x.ver == 999) = true := by
        unfold aV at hc
        rw [if_neg (by rw [h1]; decide), if_neg (by rw [h1]; decide)] at hc
        split at hc
        · next h2 =>
          refine ⟨h2, fun hb => ?_⟩
          simp [hb] at hc
        · simp at hc
      simp only [if_neg (show ¬ (6 : Int) = 2 by omega), if_neg (show ¬ (6 : Int) = 3 by omega)]
      have hN2 : bg (bg x e) ⟨6, 0, gy e.cell.id⟩ = ⟨x.id, x.ver + 1 + 1, x.kind, x.name, x.code, x.n⟩ := by rw [hN]; simp [bg]
      have hC2 : aV (bg x e) ⟨6, 0, gy e.cell.id⟩ = if (x.ver + 1 == 999) = true then 6 else 0 := by
        unfold aV
        rw [hN2, if_neg (by simp), if_neg (by simp)]
        rw [hN]
        simp only [hk.1, if_true]
        split
        · rfl
        · next h9 =>
          have h9' : x.ver + 1 ≠ 999 := by simpa using h9
          have h8' : x.ver ≠ 999 := by simpa using hk.2
          rw [if_pos (vJ g1 (by omega) (by omega))]
      rw [hC2]
      by_cases h9 : (x.ver + 1 == 999) = true
      · rw [if_pos h9]
        exact Or.inl (by simp)
      · rw [if_neg h9]
        refine Or.inr ⟨by simp, ?_⟩
        simp only [if_true]
        rw [hN2]
        simp [GCell.unver]
end Go.Proofs.Ytnongnchpplacaa

