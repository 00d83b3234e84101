/-
  Texts joined: Edit3.
-/
import Derived.Test.YtnongnchpplacaaJO
import Derived.Test.YtnongnchpplacaaJE
namespace Go.Proofs.Ytnongnchpplacaa
open Go.RowKit
set_option linter.unusedSimpArgs false
set_option linter.unusedVariables false
def bg (x : GCell) (e : GEdit) : GCell :=
  if e.kind == 4 then ⟨x.id, x.ver + 1, x.kind, e.cell.name, e.cell.code, x.n⟩
  else if e.kind == 5 then ⟨x.id, x.ver, x.kind, x.name, x.code, e.cell.n⟩
  else ⟨x.id, x.ver + 1, x.kind, x.name, x.code, x.n⟩
def aV (x : GCell) (e : GEdit) : Int :=
  if e.kind == 4 then (if x.kind == 3 then 5 else if x.ver == 999 then 6 else if bI (bg x e) then 0 else 1)
  else if e.kind == 5 then (if x.kind == 3 then (if bI (bg x e) then 0 else 1) else 5)
  else if x.kind == 2 then (if x.ver == 999 then 6 else if bI (bg x e) then 0 else 1) else 5
def dX (x : GCell) (e : GEdit) : GCell :=
  if e.kind == 4 then (if x.kind == 3 then x else if x.ver == 999 then ⟨x.id, x.ver, x.kind, e.cell.name, e.cell.code, x.n⟩ else bg x e)
  else if e.kind == 5 then (if x.kind == 3 then bg x e else x)
  else if x.kind == 2 then (if x.ver == 999 then x else bg x e) else x
theorem lS {x : GCell} {e : GEdit} (hx : x.toD.wf) (he : e.toD.wf) (hv : 0 ≤ x.ver ∧ x.ver ≤ 999) : (bg x e).toD.wf := by
  have h1 : (li (x.ver + 1)).wf := by
    show (decide (IntKind.i64.min ≤ x.ver + 1) && decide (x.ver + 1 ≤ IntKind.i64.max)) = true
    rw [show IntKind.i64.min = -9223372036854775808 from rfl, show IntKind.i64.max = 9223372036854775807 from rfl]
    simp
    omega
  have h2 : e.cell.toD.wf := he.2.2.1
  unfold bg
  split
  · exact ⟨hx.1, h1, hx.2.2.1, h2.2.2.2.1, h2.2.2.2.2.1, hx.2.2.2.2.2.1, trivial⟩
  · split
    · exact ⟨hx.1, hx.2.1, hx.2.2.1, hx.2.2.2.1, hx.2.2.2.2.1, h2.2.2.2.2.2.1, trivial⟩
    · exact ⟨hx.1, h1, hx.2.2.1, hx.2.2.2.1, hx.2.2.2.2.1, hx.2.2.2.2.2.1, trivial⟩
theorem pO {n : Int} (h : 0 ≤ n ∧ n ≤ 999) : IntKind.i64.wrap (n + 1) = n + 1 := IntWalk.i64_in _ (by omega)

def BP : IC := (.seq (.reg false [⟨(some 2), none, .box (.t 0)⟩, ⟨(some 3), none, .box (.t 1)⟩, ⟨(some 4), none, .alloc [(.int .i64 0), (.int .i64 0), (.int .i64 0), (.string ⟨#[]⟩), (.string ⟨#[]⟩), (.int .i64 0)]⟩, ⟨(some 5), none, .mov (.k (.int .i64 0))⟩]) (.seq (.seq (.reg false [⟨(some 6), none, .fad 0 (.t 3)⟩, ⟨(some 7), none, .load 1 false (.t 6)⟩]) (.block 0 (.seq (.reg false [⟨(some 13), none, .bin .eql (.t 7) (.k (.int .i64 4))⟩, ⟨(some 12), none, .mov (.t 13)⟩]) (.cond (.t 12) (.seq (.seq (.reg false [⟨(some 14), none, .fad 2 (.t 2)⟩, ⟨(some 15), none, .load 1 false (.t 14)⟩, ⟨(some 16), none, .bin .eql (.t 15) (.k (.int .i64 3))⟩]) (.cond (.t 16) (.seq (.reg false [⟨(some 17), none, .load 6 true (.t 2)⟩, ⟨none, none, .store 6 (.t 4) (.t 17)⟩, ⟨(some 5), none, .mov (.k (.int .i64 5))⟩]) .ret) .skip)) (.seq (.reg false [⟨(some 18), none, .fad 2 (.t 3)⟩, ⟨(some 19), none, .fad 3 (.t 18)⟩, ⟨(some 20), none, .load 1 false (.t 19)⟩, ⟨(some 21), none, .fad 3 (.t 2)⟩, ⟨none, none, .store 1 (.t 21) (.t 20)⟩]) (.reg false [⟨(some 22), none, .fad 2 (.t 3)⟩, ⟨(some 23), none, .fad 4 (.t 22)⟩, ⟨(some 24), none, .load 1 false (.t 23)⟩, ⟨(some 25), none, .fad 4 (.t 2)⟩, ⟨none, none, .store 1 (.t 25) (.t 24)⟩]))) (.seq (.reg false [⟨(some 27), none, .bin .eql (.t 7) (.k (.int .i64 5))⟩, ⟨(some 26), none, .mov (.t 27)⟩]) (.cond (.t 26) (.seq (.seq (.reg false [⟨(some 28), none, .fad 2 (.t 2)⟩, ⟨(some 29), none, .load 1 false (.t 28)⟩, ⟨(some 30), none, .bin .neq (.t 29) (.k (.int .i64 3))⟩]) (.cond (.t 30) (.seq (.reg false [⟨(some 31), none, .load 6 true (.t 2)⟩, ⟨none, none, .store 6 (.t 4) (.t 31)⟩, ⟨(some 5), none, .mov (.k (.int .i64 5))⟩]) .ret) .skip)) (.reg false [⟨(some 32), none, .fad 2 (.t 3)⟩, ⟨(some 33), none, .fad 5 (.t 32)⟩, ⟨(some 34), none, .load 1 false (.t 33)⟩, ⟨(some 35), none, .fad 5 (.t 2)⟩, ⟨none, none, .store 1 (.t 35) (.t 34)⟩])) (.seq (.reg false [⟨(some 8), none, .fad 2 (.t 2)⟩, ⟨(some 9), none, .load 1 false (.t 8)⟩, ⟨(some 10), none, .bin .neq (.t 9) (.k (.int .i64 2))⟩]) (.cond (.t 10) (.seq (.reg false [⟨(some 11), none, .load 6 true (.t 2)⟩, ⟨none, none, .store 6 (.t 4) (.t 11)⟩, ⟨(some 5), none, .mov (.k (.int .i64 5))⟩]) .ret) .skip)))))))) (.seq (.seq (.reg false [⟨(some 36), none, .fad 0 (.t 3)⟩, ⟨(some 37), none, .load 1 false (.t 36)⟩, ⟨(some 38), none, .bin .neq (.t 37) (.k (.int .i64 5))⟩]) (.cond (.t 38) (.seq (.seq (.reg false [⟨(some 39), none, .fad 1 (.t 2)⟩, ⟨(some 40), none, .load 1 false (.t 39)⟩, ⟨(some 41), none, .bin .eql (.t 40) (.k (.int .i64 999))⟩]) (.cond (.t 41) (.seq (.reg false [⟨(some 42), none, .load 6 true (.t 2)⟩, ⟨none, none, .store 6 (.t 4) (.t 42)⟩, ⟨(some 5), none, .mov (.k (.int .i64 6))⟩]) .ret) .skip)) (.reg false [⟨(some 43), none, .fad 1 (.t 2)⟩, ⟨(some 44), none, .load 1 false (.t 43)⟩, ⟨(some 45), none, .bin .add (.t 44) (.k (.int .i64 1))⟩, ⟨(some 46), none, .fad 1 (.t 2)⟩, ⟨none, none, .store 1 (.t 46) (.t 45)⟩])) .skip)) (.seq (.seq (.reg false [⟨(some 47), none, .load 6 true (.t 2)⟩, ⟨(some 48), none, .call 32 [(.t 47)]⟩, ⟨(some 49), none, .not (.t 48)⟩]) (.cond (.t 49) (.seq (.reg false [⟨(some 50), none, .load 6 true (.t 2)⟩, ⟨none, none, .store 6 (.t 4) (.t 50)⟩, ⟨(some 5), none, .mov (.k (.int .i64 1))⟩]) .ret) .skip)) (.seq (.reg false [⟨(some 51), none, .load 6 true (.t 2)⟩, ⟨none, none, .store 6 (.t 4) (.t 51)⟩, ⟨(some 5), none, .mov (.k (.int .i64 0))⟩]) .ret)))))
theorem DN : aF Try.prog (Try.f47.body.getD .skip) = some BP := by kernel_rfl
set_option maxHeartbeats 4000000 in
theorem gU (x : GCell) (e : GEdit) (hx : x.toD.wf) (he : e.toD.wf) (hv : 0 ≤ x.ver ∧ x.ver ≤ 999) : aK Try.prog 47 [x.toD, e.toD] (.tup [(true, (dX x e).toD.acs false), (false, [.raw (.int .i64 (aV x e))])]) := by
  refine yY (fn := Try.f47) (r := .cell 4 31) (q := .tmp 5) (by kernel_rfl) (by kernel_rfl) (by kernel_rfl) (by rw [GCell.bH]; kernel_rfl) DN ?_
  have hwf := lS hx he hv
  have hwr := pO hv
  change AWP _ _ _ (st0 52 _)
  unfold BP
  refine sS trivial ?_
  cases t1 : (e.kind == 4) with
  | true =>
    have t1n : (e.kind != 4) = false := by simp only [bne, t1]; rfl
    have t1e : e.kind = 4 := by simpa using t1
    have t1_1 : (e.kind == 1) = false := by rw [t1e]; rfl
    have t1_1n : (e.kind != 1) = true := by rw [t1e]; rfl
    have t1_2 : (e.kind == 2) = false := by rw [t1e]; rfl
    have t1_2n : (e.kind != 2) = true := by rw [t1e]; rfl
    have t1_3 : (e.kind == 3) = false := by rw [t1e]; rfl
    have t1_3n : (e.kind != 3) = true := by rw [t1e]; rfl
    have t1_5 : (e.kind == 5) = false := by rw [t1e]; rfl
    have t1_5n : (e.kind != 5) = true := by rw [t1e]; rfl
    have t1_6 : (e.kind == 6) = false := by rw [t1e]; rfl
    have t1_6n : (e.kind != 6) = true := by rw [t1e]; rfl
    cases t2 : (x.kind == 3) with
    | true =>
      have t2n : (x.kind != 3) = false := by simp only [bne, t2]; rfl
      have t2e : x.kind = 3 := by simpa using t2
      have t2_1 : (x.kind == 1) = false := by rw [t2e]; rfl
      have t2_1n : (x.kind != 1) = true := by rw [t2e]; rfl
      have t2_2 : (x.kind == 2) = false := by rw [t2e]; rfl
      have t2_2n : (x.kind != 2) = true := by rw [t2e]; rfl
      have t2_4 : (x.kind == 4) = false := by rw [t2e]; rfl
      have t2_4n : (x.kind != 4) = true := by rw [t2e]; rfl
      have t2_5 : (x.kind == 5) = false := by rw [t2e]; rfl
      have t2_5n : (x.kind != 5) = true := by rw [t2e]; rfl
      have t2_6 : (x.kind == 6) = false := by rw [t2e]; rfl
      have t2_6n : (x.kind != 6) = true := by rw [t2e]; rfl
      have hC : aV x e = 5 := by simp [aV, t1, t1n, t1_1, t1_1n, t1_2, t1_2n, t1_3, t1_3n, t1_5, t1_5n, t1_6, t1_6n, t2, t2n, t2_1, t2_1n, t2_2, t2_2n, t2_4, t2_4n, t2_5, t2_5n, t2_6, t2_6n]
      have hO : dX x e = x := by simp [dX, t1, t1n, t1_1, t1_1n, t1_2, t1_2n, t1_3, t1_3n, t1_5, t1_5n, t1_6, t1_6n, t2, t2n, t2_1, t2_1n, t2_2, t2_2n, t2_4, t2_4n, t2_5, t2_5n, t2_6, t2_6n]
      rw [hC, hO]
      repeat' (first | ((with_reducible refine aG ?_); intro K hK) | ((with_reducible refine hK _ ?_); clear hK K) | (with_reducible refine ak ?_ ?_) | ((with_reducible refine gi ?_); first | (refine aB ?_ ?_; rfl) | (refine aC ?_ ?_; (rfl; refine gF ?_))) | ((with_reducible refine aH ?_); refine ss (XR @GCell.el (XR hwr (XR t1 (XR t1n (XR t1_1 (XR t1_1n (XR t1_2 (XR t1_2n (XR t1_3 (XR t1_3n (XR t1_5 (XR t1_5n (XR t1_6 (XR t1_6n (XR t2 (XR t2n (XR t2_1 (XR t2_1n (XR t2_2 (XR t2_2n (XR t2_4 (XR t2_4n (XR t2_5 (XR t2_5n (XR t2_6 t2_6n))))))))))))))))))))))))) ?_) | refine nv ?_ | exact aZ | exact aI)
      exact aS ⟨⟨2, _, rfl, rfl, by simp [dD, dA, eY, GCell.dK]⟩, ⟨_, rfl, by simp [dD, dA, eY, GCell.dK]⟩⟩
    | false =>
      have t2n : (x.kind != 3) = true := by simp only [bne, t2]; rfl
      cases t3 : (x.ver == 999) with
      | true =>
        have t3n : (x.ver != 999) = false := by simp only [bne, t3]; rfl
        have hC : aV x e = 6 := by simp [aV, t1, t1n, t1_1, t1_1n, t1_2, t1_2n, t1_3, t1_3n, t1_5, t1_5n, t1_6, t1_6n, t2, t2n, t3, t3n]
        have hO : dX x e = ⟨x.id, x.ver, x.kind, e.cell.name, e.cell.code, x.n⟩ := by simp [dX, t1, t1n, t1_1, t1_1n, t1_2, t1_2n, t1_3, t1_3n, t1_5, t1_5n, t1_6, t1_6n, t2, t2n, t3, t3n]
        rw [hC, hO]
        repeat' (first | ((with_reducible refine aG ?_); intro K hK) | ((with_reducible refine hK _ ?_); clear hK K) | (with_reducible refine ak ?_ ?_) | ((with_reducible refine gi ?_); first | (refine aB ?_ ?_; rfl) | (refine aC ?_ ?_; (rfl; refine gF ?_))) | ((with_reducible refine aH ?_); refine ss (XR @GCell.el (XR hwr (XR t1 (XR t1n (XR t1_1 (XR t1_1n (XR t1_2 (XR t1_2n (XR t1_3 (XR t1_3n (XR t1_5 (XR t1_5n (XR t1_6 (XR t1_6n (XR t2 (XR t2n (XR t3 t3n))))))))))))))))) ?_) | refine nv ?_ | exact aZ | exact aI)
        exact aS ⟨⟨2, _, rfl, rfl, by simp [dD, dA, eY, GCell.dK]⟩, ⟨_, rfl, by simp [dD, dA, eY, GCell.dK]⟩⟩
      | false =>
        have t3n : (x.ver != 999) = true := by simp only [bne, t3]; rfl
        cases t4 : (bI (bg x e)) with
        | true =>
          have hN : bg x e = ⟨x.id, x.ver + 1, x.kind, e.cell.name, e.cell.code, x.n⟩ := by simp [bg, t1]
          rw [hN] at hwf t4
          have hC : aV x e = 0 := by simp [aV, hN, t1, t1n, t1_1, t1_1n, t1_2, t1_2n, t1_3, t1_3n, t1_5, t1_5n, t1_6, t1_6n, t2, t2n, t3, t3n, t4]
          have hO : dX x e = ⟨x.id, x.ver + 1, x.kind, e.cell.name, e.cell.code, x.n⟩ := by simp [dX, hN, t1, t1n, t1_1, t1_1n, t1_2, t1_2n, t1_3, t1_3n, t1_5, t1_5n, t1_6, t1_6n, t2, t2n, t3, t3n, t4]
          rw [hC, hO]
          repeat' (first | ((with_reducible refine aG ?_); intro K hK) | ((with_reducible refine hK _ ?_); clear hK K) | (with_reducible refine ak ?_ ?_) | ((with_reducible refine gi ?_); first | (refine aB ?_ ?_; rfl) | (refine aC ?_ ?_; (rfl; refine gF ?_))) | ((with_reducible refine aU ?_); first | refine au (hc := (aW ⟨x.id, x.ver + 1, x.kind, e.cell.name, e.cell.code, x.n⟩ hwf)) (h := ?_)) | ((with_reducible refine bG ?_); first | refine ay (hc := (aW ⟨x.id, x.ver + 1, x.kind, e.cell.name, e.cell.code, x.n⟩ hwf)) (h := ?_)) | ((with_reducible refine aH ?_); refine ss (XR @GCell.el (XR hwr (XR t1 (XR t1n (XR t1_1 (XR t1_1n (XR t1_2 (XR t1_2n (XR t1_3 (XR t1_3n (XR t1_5 (XR t1_5n (XR t1_6 (XR t1_6n (XR t2 (XR t2n (XR t3 (XR t3n t4)))))))))))))))))) ?_) | refine nv ?_ | exact aZ | exact aI)
          exact aS ⟨⟨2, _, rfl, rfl, by simp [dD, dA, eY, GCell.dK]⟩, ⟨_, rfl, by simp [dD, dA, eY, GCell.dK]⟩⟩
        | false =>
          have hN : bg x e = ⟨x.id, x.ver + 1, x.kind, e.cell.name, e.cell.code, x.n⟩ := by simp [bg, t1]
          rw [hN] at hwf t4
          have hC : aV x e = 1 := by simp [aV, hN, t1, t1n, t1_1, t1_1n, t1_2, t1_2n, t1_3, t1_3n, t1_5, t1_5n, t1_6, t1_6n, t2, t2n, t3, t3n, t4]
          have hO : dX x e = ⟨x.id, x.ver + 1, x.kind, e.cell.name, e.cell.code, x.n⟩ := by simp [dX, hN, t1, t1n, t1_1, t1_1n, t1_2, t1_2n, t1_3, t1_3n, t1_5, t1_5n, t1_6, t1_6n, t2, t2n, t3, t3n, t4]
          rw [hC, hO]
          repeat' (first | ((with_reducible refine aG ?_); intro K hK) | ((with_reducible refine hK _ ?_); clear hK K) | (with_reducible refine ak ?_ ?_) | ((with_reducible refine gi ?_); first | (refine aB ?_ ?_; rfl) | (refine aC ?_ ?_; (rfl; refine gF ?_))) | ((with_reducible refine aU ?_); first | refine au (hc := (aW ⟨x.id, x.ver + 1, x.kind, e.cell.name, e.cell.code, x.n⟩ hwf)) (h := ?_)) | ((with_reducible refine bG ?_); first | refine ay (hc := (aW ⟨x.id, x.ver + 1, x.kind, e.cell.name, e.cell.code, x.n⟩ hwf)) (h := ?_)) | ((with_reducible refine aH ?_); refine ss (XR @GCell.el (XR hwr (XR t1 (XR t1n (XR t1_1 (XR t1_1n (XR t1_2 (XR t1_2n (XR t1_3 (XR t1_3n (XR t1_5 (XR t1_5n (XR t1_6 (XR t1_6n (XR t2 (XR t2n (XR t3 (XR t3n t4)))))))))))))))))) ?_) | refine nv ?_ | exact aZ | exact aI)
          exact aS ⟨⟨2, _, rfl, rfl, by simp [dD, dA, eY, GCell.dK]⟩, ⟨_, rfl, by simp [dD, dA, eY, GCell.dK]⟩⟩
  | false =>
    have t1n : (e.kind != 4) = true := by simp only [bne, t1]; rfl
    cases t5 : (e.kind == 5) with
    | true =>
      have t5n : (e.kind != 5) = false := by simp only [bne, t5]; rfl
      have t5e : e.kind = 5 := by simpa using t5
      have t5_1 : (e.kind == 1) = false := by rw [t5e]; rfl
      have t5_1n : (e.kind != 1) = true := by rw [t5e]; rfl
      have t5_2 : (e.kind == 2) = false := by rw [t5e]; rfl
      have t5_2n : (e.kind != 2) = true := by rw [t5e]; rfl
      have t5_3 : (e.kind == 3) = false := by rw [t5e]; rfl
      have t5_3n : (e.kind != 3) = true := by rw [t5e]; rfl
      have t5_4 : (e.kind == 4) = false := by rw [t5e]; rfl
      have t5_4n : (e.kind != 4) = true := by rw [t5e]; rfl
      have t5_6 : (e.kind == 6) = false := by rw [t5e]; rfl
      have t5_6n : (e.kind != 6) = true := by rw [t5e]; rfl
      cases t6 : (x.kind == 3) with
      | true =>
        have t6n : (x.kind != 3) = false := by simp only [bne, t6]; rfl
        have t6e : x.kind = 3 := by simpa using t6
        have t6_1 : (x.kind == 1) = false := by rw [t6e]; rfl
        have t6_1n : (x.kind != 1) = true := by rw [t6e]; rfl
        have t6_2 : (x.kind == 2) = false := by rw [t6e]; rfl
        have t6_2n : (x.kind != 2) = true := by rw [t6e]; rfl
        have t6_4 : (x.kind == 4) = false := by rw [t6e]; rfl
        have t6_4n : (x.kind != 4) = true := by rw [t6e]; rfl
        have t6_5 : (x.kind == 5) = false := by rw [t6e]; rfl
        have t6_5n : (x.kind != 5) = true := by rw [t6e]; rfl
        have t6_6 : (x.kind == 6) = false := by rw [t6e]; rfl
        have t6_6n : (x.kind != 6) = true := by rw [t6e]; rfl
        cases t7 : (bI (bg x e)) with
        | true =>
          have hN : bg x e = ⟨x.id, x.ver, x.kind, x.name, x.code, e.cell.n⟩ := by simp [bg, t1, t5]
          rw [hN] at hwf t7
          have hC : aV x e = 0 := by simp [aV, hN, t1, t1n, t5, t5n, t5_1, t5_1n, t5_2, t5_2n, t5_3, t5_3n, t5_4, t5_4n, t5_6, t5_6n, t6, t6n, t6_1, t6_1n, t6_2, t6_2n, t6_4, t6_4n, t6_5, t6_5n, t6_6, t6_6n, t7]
          have hO : dX x e = ⟨x.id, x.ver, x.kind, x.name, x.code, e.cell.n⟩ := by simp [dX, hN, t1, t1n, t5, t5n, t5_1, t5_1n, t5_2, t5_2n, t5_3, t5_3n, t5_4, t5_4n, t5_6, t5_6n, t6, t6n, t6_1, t6_1n, t6_2, t6_2n, t6_4, t6_4n, t6_5, t6_5n, t6_6, t6_6n, t7]
          rw [hC, hO]
          repeat' (first | ((with_reducible refine aG ?_); intro K hK) | ((with_reducible refine hK _ ?_); clear hK K) | (with_reducible refine ak ?_ ?_) | ((with_reducible refine gi ?_); first | (refine aB ?_ ?_; rfl) | (refine aC ?_ ?_; (rfl; refine gF ?_))) | ((with_reducible refine aU ?_); first | refine au (hc := (aW ⟨x.id, x.ver, x.kind, x.name, x.code, e.cell.n⟩ hwf)) (h := ?_)) | ((with_reducible refine bG ?_); first | refine ay (hc := (aW ⟨x.id, x.ver, x.kind, x.name, x.code, e.cell.n⟩ hwf)) (h := ?_)) | ((with_reducible refine aH ?_); refine ss (XR @GCell.el (XR hwr (XR t1 (XR t1n (XR t5 (XR t5n (XR t5_1 (XR t5_1n (XR t5_2 (XR t5_2n (XR t5_3 (XR t5_3n (XR t5_4 (XR t5_4n (XR t5_6 (XR t5_6n (XR t6 (XR t6n (XR t6_1 (XR t6_1n (XR t6_2 (XR t6_2n (XR t6_4 (XR t6_4n (XR t6_5 (XR t6_5n (XR t6_6 (XR t6_6n t7)))))))))))))))))))))))))))) ?_) | refine nv ?_ | exact aZ | exact aI)
          exact aS ⟨⟨2, _, rfl, rfl, by simp [dD, dA, eY, GCell.dK]⟩, ⟨_, rfl, by simp [dD, dA, eY, GCell.dK]⟩⟩
        | false =>
          have hN : bg x e = ⟨x.id, x.ver, x.kind, x.name, x.code, e.cell.n⟩ := by simp [bg, t1, t5]
          rw [hN] at hwf t7
          have hC : aV x e = 1 := by simp [aV, hN, t1, t1n, t5, t5n, t5_1, t5_1n, t5_2, t5_2n, t5_3, t5_3n, t5_4, t5_4n, t5_6, t5_6n, t6, t6n, t6_1, t6_1n, t6_2, t6_2n, t6_4, t6_4n, t6_5, t6_5n, t6_6, t6_6n, t7]
          have hO : dX x e = ⟨x.id, x.ver, x.kind, x.name, x.code, e.cell.n⟩ := by simp [dX, hN, t1, t1n, t5, t5n, t5_1, t5_1n, t5_2, t5_2n, t5_3, t5_3n, t5_4, t5_4n, t5_6, t5_6n, t6, t6n, t6_1, t6_1n, t6_2, t6_2n, t6_4, t6_4n, t6_5, t6_5n, t6_6, t6_6n, t7]
          rw [hC, hO]
          repeat' (first | ((with_reducible refine aG ?_); intro K hK) | ((with_reducible refine hK _ ?_); clear hK K) | (with_reducible refine ak ?_ ?_) | ((with_reducible refine gi ?_); first | (refine aB ?_ ?_; rfl) | (refine aC ?_ ?_; (rfl; refine gF ?_))) | ((with_reducible refine aU ?_); first | refine au (hc := (aW ⟨x.id, x.ver, x.kind, x.name, x.code, e.cell.n⟩ hwf)) (h := ?_)) | ((with_reducible refine bG ?_); first | refine ay (hc := (aW ⟨x.id, x.ver, x.kind, x.name, x.code, e.cell.n⟩ hwf)) (h := ?_)) | ((with_reducible refine aH ?_); refine ss (XR @GCell.el (XR hwr (XR t1 (XR t1n (XR t5 (XR t5n (XR t5_1 (XR t5_1n (XR t5_2 (XR t5_2n (XR t5_3 (XR t5_3n (XR t5_4 (XR t5_4n (XR t5_6 (XR t5_6n (XR t6 (XR t6n (XR t6_1 (XR t6_1n (XR t6_2 (XR t6_2n (XR t6_4 (XR t6_4n (XR t6_5 (XR t6_5n (XR t6_6 (XR t6_6n t7)))))))))))))))))))))))))))) ?_) | refine nv ?_ | exact aZ | exact aI)
          exact aS ⟨⟨2, _, rfl, rfl, by simp [dD, dA, eY, GCell.dK]⟩, ⟨_, rfl, by simp [dD, dA, eY, GCell.dK]⟩⟩
      | false =>
        have t6n : (x.kind != 3) = true := by simp only [bne, t6]; rfl
        have hC : aV x e = 5 := by simp [aV, t1, t1n, t5, t5n, t5_1, t5_1n, t5_2, t5_2n, t5_3, t5_3n, t5_4, t5_4n, t5_6, t5_6n, t6, t6n]
        have hO : dX x e = x := by simp [dX, t1, t1n, t5, t5n, t5_1, t5_1n, t5_2, t5_2n, t5_3, t5_3n, t5_4, t5_4n, t5_6, t5_6n, t6, t6n]
        rw [hC, hO]
        repeat' (first | ((with_reducible refine aG ?_); intro K hK) | ((with_reducible refine hK _ ?_); clear hK K) | (with_reducible refine ak ?_ ?_) | ((with_reducible refine gi ?_); first | (refine aB ?_ ?_; rfl) | (refine aC ?_ ?_; (rfl; refine gF ?_))) | ((with_reducible refine aH ?_); refine ss (XR @GCell.el (XR hwr (XR t1 (XR t1n (XR t5 (XR t5n (XR t5_1 (XR t5_1n (XR t5_2 (XR t5_2n (XR t5_3 (XR t5_3n (XR t5_4 (XR t5_4n (XR t5_6 (XR t5_6n (XR t6 t6n))))))))))))))))) ?_) | refine nv ?_ | exact aZ | exact aI)
        exact aS ⟨⟨2, _, rfl, rfl, by simp [dD, dA, eY, GCell.dK]⟩, ⟨_, rfl, by simp [dD, dA, eY, GCell.dK]⟩⟩
    | false =>
      have t5n : (e.kind != 5) = true := by simp only [bne, t5]; rfl
      cases t8 : (x.kind == 2) with
      | true =>
        have t8n : (x.kind != 2) = false := by simp only [bne, t8]; rfl
        have t8e : x.kind = 2 := by simpa using t8
        have t8_1 : (x.kind == 1) = false := by rw [t8e]; rfl
        have t8_1n : (x.kind != 1) = true := by rw [t8e]; rfl
        have t8_3 : (x.kind == 3) = false := by rw [t8e]; rfl
        have t8_3n : (x.kind != 3) = true := by rw [t8e]; rfl
        have t8_4 : (x.kind == 4) = false := by rw [t8e]; rfl
        have t8_4n : (x.kind != 4) = true := by rw [t8e]; rfl
        have t8_5 : (x.kind == 5) = false := by rw [t8e]; rfl
        have t8_5n : (x.kind != 5) = true := by rw [t8e]; rfl
        have t8_6 : (x.kind == 6) = false := by rw [t8e]; rfl
        have t8_6n : (x.kind != 6) = true := by rw [t8e]; rfl
        cases t9 : (x.ver == 999) with
        | true =>
          have t9n : (x.ver != 999) = false := by simp only [bne, t9]; rfl
          have hC : aV x e = 6 := by simp [aV, t1, t1n, t5, t5n, t8, t8n, t8_1, t8_1n, t8_3, t8_3n, t8_4, t8_4n, t8_5, t8_5n, t8_6, t8_6n, t9, t9n]
          have hO : dX x e = x := by simp [dX, t1, t1n, t5, t5n, t8, t8n, t8_1, t8_1n, t8_3, t8_3n, t8_4, t8_4n, t8_5, t8_5n, t8_6, t8_6n, t9, t9n]
          rw [hC, hO]
          repeat' (first | ((with_reducible refine aG ?_); intro K hK) | ((with_reducible refine hK _ ?_); clear hK K) | (with_reducible refine ak ?_ ?_) | ((with_reducible refine gi ?_); first | (refine aB ?_ ?_; rfl) | (refine aC ?_ ?_; (rfl; refine gF ?_))) | ((with_reducible refine aH ?_); refine ss (XR @GCell.el (XR hwr (XR t1 (XR t1n (XR t5 (XR t5n (XR t8 (XR t8n (XR t8_1 (XR t8_1n (XR t8_3 (XR t8_3n (XR t8_4 (XR t8_4n (XR t8_5 (XR t8_5n (XR t8_6 (XR t8_6n (XR t9 t9n))))))))))))))))))) ?_) | refine nv ?_ | exact aZ | exact aI)
          exact aS ⟨⟨2, _, rfl, rfl, by simp [dD, dA, eY, GCell.dK]⟩, ⟨_, rfl, by simp [dD, dA, eY, GCell.dK]⟩⟩
        | false =>
          have t9n : (x.ver != 999) = true := by simp only [bne, t9]; rfl
          cases t10 : (bI (bg x e)) with
          | true =>
            have hN : bg x e = ⟨x.id, x.ver + 1, x.kind, x.name, x.code, x.n⟩ := by simp [bg, t1, t5]
            rw [hN] at hwf t10
            have hC : aV x e = 0 := by simp [aV, hN, t1, t1n, t5, t5n, t8, t8n, t8_1, t8_1n, t8_3, t8_3n, t8_4, t8_4n, t8_5, t8_5n, t8_6, t8_6n, t9, t9n, t10]
            have hO : dX x e = ⟨x.id, x.ver + 1, x.kind, x.name, x.code, x.n⟩ := by simp [dX, hN, t1, t1n, t5, t5n, t8, t8n, t8_1, t8_1n, t8_3, t8_3n, t8_4, t8_4n, t8_5, t8_5n, t8_6, t8_6n, t9, t9n, t10]
            rw [hC, hO]
            repeat' (first | ((with_reducible refine aG ?_); intro K hK) | ((with_reducible refine hK _ ?_); clear hK K) | (with_reducible refine ak ?_ ?_) | ((with_reducible refine gi ?_); first | (refine aB ?_ ?_; rfl) | (refine aC ?_ ?_; (rfl; refine gF ?_))) | ((with_reducible refine aU ?_); first | refine au (hc := (aW ⟨x.id, x.ver + 1, x.kind, x.name, x.code, x.n⟩ hwf)) (h := ?_)) | ((with_reducible refine bG ?_); first | refine ay (hc := (aW ⟨x.id, x.ver + 1, x.kind, x.name, x.code, x.n⟩ hwf)) (h := ?_)) | ((with_reducible refine aH ?_); refine ss (XR @GCell.el (XR hwr (XR t1 (XR t1n (XR t5 (XR t5n (XR t8 (XR t8n (XR t8_1 (XR t8_1n (XR t8_3 (XR t8_3n (XR t8_4 (XR t8_4n (XR t8_5 (XR t8_5n (XR t8_6 (XR t8_6n (XR t9 (XR t9n t10)))))))))))))))))))) ?_) | refine nv ?_ | exact aZ | exact aI)
            exact aS ⟨⟨2, _, rfl, rfl, by simp [dD, dA, eY, GCell.dK]⟩, ⟨_, rfl, by simp [dD, dA, eY, GCell.dK]⟩⟩
          | false =>
            have hN : bg x e = ⟨x.id, x.ver + 1, x.kind, x.name, x.code, x.n⟩ := by simp [bg, t1, t5]
            rw [hN] at hwf t10
            have hC : aV x e = 1 := by simp [aV, hN, t1, t1n, t5, t5n, t8, t8n, t8_1, t8_1n, t8_3, t8_3n, t8_4, t8_4n, t8_5, t8_5n, t8_6, t8_6n, t9, t9n, t10]
            have hO : dX x e = ⟨x.id, x.ver + 1, x.kind, x.name, x.code, x.n⟩ := by simp [dX, hN, t1, t1n, t5, t5n, t8, t8n, t8_1, t8_1n, t8_3, t8_3n, t8_4, t8_4n, t8_5, t8_5n, t8_6, t8_6n, t9, t9n, t10]
            rw [hC, hO]
            repeat' (first | ((with_reducible refine aG ?_); intro K hK) | ((with_reducible refine hK _ ?_); clear hK K) | (with_reducible refine ak ?_ ?_) | ((with_reducible refine gi ?_); first | (refine aB ?_ ?_; rfl) | (refine aC ?_ ?_; (rfl; refine gF ?_))) | ((with_reducible refine aU ?_); first | refine au (hc := (aW ⟨x.id, x.ver + 1, x.kind, x.name, x.code, x.n⟩ hwf)) (h := ?_)) | ((with_reducible refine bG ?_); first | refine ay (hc := (aW ⟨x.id, x.ver + 1, x.kind, x.name, x.code, x.n⟩ hwf)) (h := ?_)) | ((with_reducible refine aH ?_); refine ss (XR @GCell.el (XR hwr (XR t1 (XR t1n (XR t5 (XR t5n (XR t8 (XR t8n (XR t8_1 (XR t8_1n (XR t8_3 (XR t8_3n (XR t8_4 (XR t8_4n (XR t8_5 (XR t8_5n (XR t8_6 (XR t8_6n (XR t9 (XR t9n t10)))))))))))))))))))) ?_) | refine nv ?_ | exact aZ | exact aI)
            exact aS ⟨⟨2, _, rfl, rfl, by simp [dD, dA, eY, GCell.dK]⟩, ⟨_, rfl, by simp [dD, dA, eY, GCell.dK]⟩⟩
      | false =>
        have t8n : (x.kind != 2) = true := by simp only [bne, t8]; rfl
        have hC : aV x e = 5 := by simp [aV, t1, t1n, t5, t5n, t8, t8n]
        have hO : dX x e = x := by simp [dX, t1, t1n, t5, t5n, t8, t8n]
        rw [hC, hO]
        repeat' (first | ((with_reducible refine aG ?_); intro K hK) | ((with_reducible refine hK _ ?_); clear hK K) | (with_reducible refine ak ?_ ?_) | ((with_reducible refine gi ?_); first | (refine aB ?_ ?_; rfl) | (refine aC ?_ ?_; (rfl; refine gF ?_))) | ((with_reducible refine aH ?_); refine ss (XR @GCell.el (XR hwr (XR t1 (XR t1n (XR t5 (XR t5n (XR t8 t8n))))))) ?_) | refine nv ?_ | exact aZ | exact aI)
        exact aS ⟨⟨2, _, rfl, rfl, by simp [dD, dA, eY, GCell.dK]⟩, ⟨_, rfl, by simp [dD, dA, eY, GCell.dK]⟩⟩
theorem dG (l : List GCell) (id : Int) : bD l id = -1 ∨ ∃ k, k < l.length ∧ bD l id = (k : Int) := by
  have : ∀ (l : List GCell) (j : Nat), fC l id j = -1 ∨ ∃ k, k < l.length ∧ fC l id j = ((j + k : Nat) : Int) := by
    intro l
    induction l with
    | nil => intro j; exact Or.inl rfl
    | cons c r ih =>
      intro j
      unfold fC
      split
      · exact Or.inr ⟨0, by simp, by simp⟩
      · rcases ih (j + 1) with h | ⟨k, h1, h2⟩
        · exact Or.inl h
        · exact Or.inr ⟨k + 1, by simp; omega, by rw [h2]; congr 1; omega⟩
  rcases this l 0 with h | ⟨k, h1, h2⟩
  · exact Or.inl h
  · exact Or.inr ⟨k, h1, by unfold bD; rw [h2]; simp⟩
def chg (l : List GCell) (e : GEdit) : List GCell × Int :=
  if e.kind = 1 then (if bI e.cell then (if 0 ≤ bD l e.cell.id then (l, 3) else if 8 ≤ l.length then (l, 4) else (l7 l (fP e.pos l.length) e.cell, 0)) else (l, 1))
  else if bD l e.cell.id < 0 then (l, 2)
  else match l[(bD l e.cell.id).toNat]? with
    | none => (l, 2)
    | some x => if e.kind = 2 then (gV l (bD l e.cell.id).toNat, 0)
      else if e.kind = 3 then (l7 (gV l (bD l e.cell.id).toNat) (fP e.pos (gV l (bD l e.cell.id).toNat).length) x, 0)
      else if aV x e = 0 then (l.set (bD l e.cell.id).toNat (bg x e), 0) else (l, aV x e)
theorem uD (x : GCell) (e : GEdit) : aV x e = 0 ∨ aV x e = 1 ∨ aV x e = 5 ∨ aV x e = 6 := by
  unfold aV
  repeat' split
  all_goals simp
theorem nG {l : List GCell} (h : dB l = true) {k : Nat} (hk : k < l.length) : bI l[k] = true := by
  have : ∀ (r : List GCell) (j : Nat), dW l r j = true → ∀ x ∈ r, bI x = true := by
    intro r
    induction r with
    | nil => intro j _ x hx; simp at hx
    | cons c r ih =>
      intro j hv x hx
      simp only [dW, Bool.and_eq_true] at hv
      rcases List.mem_cons.1 hx with rfl | hx
      · exact hv.1.1
      · exact ih _ hv.2 x hx
  unfold dB at h
  simp only [Bool.and_eq_true] at h
  exact this l 0 h.1 _ (List.getElem_mem hk)
theorem nD {x : GCell} (h : bI x = true) : 0 ≤ x.ver ∧ x.ver ≤ 999 := by
  unfold bI inR at h
  simp at h
  omega
theorem kJ {l : List GCell} (h : dB l = true) : l.length ≤ 8 := by
  unfold dB at h
  simp at h
  omega
theorem sJ (l : List GCell) (k : Nat) : (gV l k).length ≤ l.length := by
  unfold gV
  simp
  omega
theorem nK {l : List GCell} {k : Nat} {c : GCell} : (l.map GCell.toD).set k c.toD = (l.set k c).map GCell.toD := by rw [List.map_set]

def EF : IC := (.seq (.reg false [⟨(some 2), none, .box (.t 0)⟩, ⟨(some 3), none, .box (.t 1)⟩, ⟨(some 4), none, .alloc [(.slice none 0 0)]⟩, ⟨(some 5), none, .mov (.k (.int .i64 0))⟩]) (.seq (.reg false [⟨(some 9), none, .load 1 true (.t 2)⟩, ⟨(some 10), none, .fad 2 (.t 3)⟩, ⟨(some 11), none, .fad 0 (.t 10)⟩, ⟨(some 12), none, .load 1 false (.t 11)⟩, ⟨(some 13), none, .call 11 [(.t 9), (.t 12)]⟩, ⟨(some 6), none, .mov (.t 13)⟩]) (.seq (.seq (.reg false [⟨(some 14), none, .fad 0 (.t 3)⟩, ⟨(some 15), none, .load 1 false (.t 14)⟩, ⟨(some 16), none, .bin .eql (.t 15) (.k (.int .i64 1))⟩]) (.cond (.t 16) (.seq (.block 0 (.seq (.reg false [⟨(some 18), none, .fad 2 (.t 3)⟩, ⟨(some 19), none, .load 6 true (.t 18)⟩, ⟨(some 20), none, .call 12 [(.t 19)]⟩, ⟨(some 21), none, .not (.t 20)⟩, ⟨(some 17), none, .mov (.t 21)⟩]) (.cond (.t 17) (.seq (.reg false [⟨(some 22), none, .load 1 true (.t 2)⟩, ⟨none, none, .store 1 (.t 4) (.t 22)⟩, ⟨(some 5), none, .mov (.k (.int .i64 1))⟩]) .ret) (.seq (.reg false [⟨(some 24), none, .mov (.t 6)⟩, ⟨(some 25), none, .bin .geq (.t 24) (.k (.int .i64 0))⟩, ⟨(some 23), none, .mov (.t 25)⟩]) (.cond (.t 23) (.seq (.reg false [⟨(some 26), none, .load 1 true (.t 2)⟩, ⟨none, none, .store 1 (.t 4) (.t 26)⟩, ⟨(some 5), none, .mov (.k (.int .i64 3))⟩]) .ret) (.seq (.reg false [⟨(some 28), none, .fad 0 (.t 2)⟩, ⟨(some 29), none, .load 1 false (.t 28)⟩, ⟨(some 30), none, .len false (.t 29)⟩, ⟨(some 31), none, .bin .geq (.t 30) (.k (.int .i64 8))⟩, ⟨(some 27), none, .mov (.t 31)⟩]) (.cond (.t 27) (.seq (.reg false [⟨(some 32), none, .load 1 true (.t 2)⟩, ⟨none, none, .store 1 (.t 4) (.t 32)⟩, ⟨(some 5), none, .mov (.k (.int .i64 4))⟩]) .ret) .skip))))))) (.seq (.reg false [⟨(some 33), none, .fad 0 (.t 2)⟩, ⟨(some 34), none, .load 1 false (.t 33)⟩, ⟨(some 35), none, .fad 1 (.t 3)⟩, ⟨(some 36), none, .load 1 false (.t 35)⟩, ⟨(some 37), none, .fad 2 (.t 3)⟩, ⟨(some 38), none, .load 6 true (.t 37)⟩, ⟨(some 39), none, .call 57 [(.t 34), (.t 36), (.t 38)]⟩, ⟨(some 40), none, .bld [(.slice none 0 0)] [(0, 1, (.t 39))]⟩, ⟨none, none, .store 1 (.t 4) (.t 40)⟩, ⟨(some 5), none, .mov (.k (.int .i64 0))⟩]) .ret)) .skip)) (.seq (.seq (.reg false [⟨(some 41), none, .mov (.t 6)⟩, ⟨(some 42), none, .bin .lss (.t 41) (.k (.int .i64 0))⟩]) (.cond (.t 42) (.seq (.reg false [⟨(some 43), none, .load 1 true (.t 2)⟩, ⟨none, none, .store 1 (.t 4) (.t 43)⟩, ⟨(some 5), none, .mov (.k (.int .i64 2))⟩]) .ret) .skip)) (.seq (.reg false [⟨(some 44), none, .fad 0 (.t 2)⟩, ⟨(some 45), none, .load 1 false (.t 44)⟩, ⟨(some 46), none, .mov (.t 6)⟩, ⟨(some 47), none, .iad 6 (.t 45) (.t 46)⟩, ⟨(some 48), none, .load 6 true (.t 47)⟩, ⟨(some 7), none, .alloc [(.int .i64 0), (.int .i64 0), (.int .i64 0), (.string ⟨#[]⟩), (.string ⟨#[]⟩), (.int .i64 0)]⟩, ⟨none, none, .store 6 (.t 7) (.t 48)⟩]) (.seq (.seq (.reg false [⟨(some 49), none, .fad 0 (.t 3)⟩, ⟨(some 50), none, .load 1 false (.t 49)⟩]) (.block 1 (.seq (.reg false [⟨(some 90), none, .bin .eql (.t 50) (.k (.int .i64 2))⟩, ⟨(some 89), none, .mov (.t 90)⟩]) (.cond (.t 89) (.seq (.reg false [⟨(some 91), none, .fad 0 (.t 2)⟩, ⟨(some 92), none, .load 1 false (.t 91)⟩, ⟨(some 93), none, .mov (.t 6)⟩, ⟨(some 94), none, .call 58 [(.t 92), (.t 93)]⟩, ⟨(some 95), none, .bld [(.slice none 0 0)] [(0, 1, (.t 94))]⟩, ⟨none, none, .store 1 (.t 4) (.t 95)⟩, ⟨(some 5), none, .mov (.k (.int .i64 0))⟩]) .ret) (.seq (.reg false [⟨(some 97), none, .bin .eql (.t 50) (.k (.int .i64 3))⟩, ⟨(some 96), none, .mov (.t 97)⟩]) (.cond (.t 96) (.seq (.regN true [] [⟨(some 98), none, .fad 0 (.t 2)⟩, ⟨(some 99), none, .load 1 false (.t 98)⟩, ⟨(some 100), none, .mov (.t 6)⟩, ⟨(some 101), none, .call 58 [(.t 99), (.t 100)]⟩, ⟨(some 102), none, .fad 1 (.t 3)⟩, ⟨(some 103), none, .load 1 false (.t 102)⟩, ⟨(some 104), none, .load 6 true (.t 7)⟩, ⟨(some 105), none, .call 57 [(.t 101), (.t 103), (.t 104)]⟩, ⟨(some 106), none, .bld [(.slice none 0 0)] [(0, 1, (.t 105))]⟩, ⟨none, none, .store 1 (.t 4) (.t 106)⟩, ⟨(some 5), none, .mov (.k (.int .i64 0))⟩]) .ret) (.seq (.reg false [⟨(some 108), none, .bin .eql (.t 50) (.k (.int .i64 5))⟩, ⟨(some 107), none, .mov (.t 108)⟩]) (.cond (.t 107) (.seq (.seq (.reg false [⟨(some 109), none, .fad 2 (.t 7)⟩, ⟨(some 110), none, .load 1 false (.t 109)⟩, ⟨(some 111), none, .bin .neq (.t 110) (.k (.int .i64 3))⟩]) (.cond (.t 111) (.seq (.reg false [⟨(some 112), none, .load 1 true (.t 2)⟩, ⟨none, none, .store 1 (.t 4) (.t 112)⟩, ⟨(some 5), none, .mov (.k (.int .i64 5))⟩]) .ret) .skip)) (.reg false [⟨(some 113), none, .fad 2 (.t 3)⟩, ⟨(some 114), none, .fad 5 (.t 113)⟩, ⟨(some 115), none, .load 1 false (.t 114)⟩, ⟨(some 116), none, .fad 5 (.t 7)⟩, ⟨none, none, .store 1 (.t 116) (.t 115)⟩])) (.seq (.seq (.reg false [⟨(some 51), none, .fad 0 (.t 3)⟩, ⟨(some 52), none, .load 1 false (.t 51)⟩, ⟨(some 53), none, .bin .eql (.t 52) (.k (.int .i64 4))⟩, ⟨(some 54), none, .mov (.t 53)⟩, ⟨(some 55), (some (54, true)), .fad 2 (.t 7)⟩, ⟨(some 56), (some (54, true)), .load 1 false (.t 55)⟩, ⟨(some 57), (some (54, true)), .bin .eql (.t 56) (.k (.int .i64 3))⟩, ⟨(some 58), none, .pick (.t 54) (.t 57) (.k (.bool false))⟩, ⟨(some 59), none, .mov (.t 58)⟩, ⟨(some 60), (some (59, false)), .fad 0 (.t 3)⟩, ⟨(some 61), (some (59, false)), .load 1 false (.t 60)⟩, ⟨(some 62), (some (59, false)), .bin .eql (.t 61) (.k (.int .i64 6))⟩, ⟨(some 63), (some (59, false)), .mov (.t 62)⟩, ⟨(some 64), (some (63, true)), .fad 2 (.t 7)⟩, ⟨(some 65), (some (63, true)), .load 1 false (.t 64)⟩, ⟨(some 66), (some (63, true)), .bin .neq (.t 65) (.k (.int .i64 2))⟩, ⟨(some 67), (some (59, false)), .pick (.t 63) (.t 66) (.k (.bool false))⟩, ⟨(some 68), none, .pick (.t 59) (.k (.bool true)) (.t 67)⟩]) (.cond (.t 68) (.seq (.reg false [⟨(some 69), none, .load 1 true (.t 2)⟩, ⟨none, none, .store 1 (.t 4) (.t 69)⟩, ⟨(some 5), none, .mov (.k (.int .i64 5))⟩]) .ret) .skip)) (.seq (.seq (.reg false [⟨(some 70), none, .fad 1 (.t 7)⟩, ⟨(some 71), none, .load 1 false (.t 70)⟩, ⟨(some 72), none, .bin .geq (.t 71) (.k (.int .i64 999))⟩]) (.cond (.t 72) (.seq (.reg false [⟨(some 73), none, .load 1 true (.t 2)⟩, ⟨none, none, .store 1 (.t 4) (.t 73)⟩, ⟨(some 5), none, .mov (.k (.int .i64 6))⟩]) .ret) .skip)) (.seq (.reg false [⟨(some 74), none, .fad 1 (.t 7)⟩, ⟨(some 75), none, .load 1 false (.t 74)⟩, ⟨(some 76), none, .bin .add (.t 75) (.k (.int .i64 1))⟩, ⟨(some 77), none, .fad 1 (.t 7)⟩, ⟨none, none, .store 1 (.t 77) (.t 76)⟩]) (.seq (.reg false [⟨(some 78), none, .fad 0 (.t 3)⟩, ⟨(some 79), none, .load 1 false (.t 78)⟩, ⟨(some 80), none, .bin .eql (.t 79) (.k (.int .i64 4))⟩]) (.cond (.t 80) (.seq (.reg false [⟨(some 81), none, .fad 2 (.t 3)⟩, ⟨(some 82), none, .fad 3 (.t 81)⟩, ⟨(some 83), none, .load 1 false (.t 82)⟩, ⟨(some 84), none, .fad 3 (.t 7)⟩, ⟨none, none, .store 1 (.t 84) (.t 83)⟩]) (.reg false [⟨(some 85), none, .fad 2 (.t 3)⟩, ⟨(some 86), none, .fad 4 (.t 85)⟩, ⟨(some 87), none, .load 1 false (.t 86)⟩, ⟨(some 88), none, .fad 4 (.t 7)⟩, ⟨none, none, .store 1 (.t 88) (.t 87)⟩])) .skip))))))))))))) (.seq (.seq (.reg false [⟨(some 117), none, .load 6 true (.t 7)⟩, ⟨(some 118), none, .call 12 [(.t 117)]⟩, ⟨(some 119), none, .not (.t 118)⟩]) (.cond (.t 119) (.seq (.reg false [⟨(some 120), none, .load 1 true (.t 2)⟩, ⟨none, none, .store 1 (.t 4) (.t 120)⟩, ⟨(some 5), none, .mov (.k (.int .i64 1))⟩]) .ret) .skip)) (.seq (.reg false [⟨(some 121), none, .load 1 true (.t 2)⟩, ⟨(some 122), none, .call 39 [(.t 121)]⟩, ⟨(some 8), none, .alloc [(.slice none 0 0)]⟩, ⟨none, none, .store 1 (.t 8) (.t 122)⟩]) (.seq (.reg false [⟨(some 123), none, .fad 0 (.t 8)⟩, ⟨(some 124), none, .load 1 false (.t 123)⟩, ⟨(some 125), none, .mov (.t 6)⟩, ⟨(some 126), none, .load 6 true (.t 7)⟩, ⟨(some 127), none, .iad 6 (.t 124) (.t 125)⟩, ⟨none, none, .store 6 (.t 127) (.t 126)⟩]) (.seq (.reg false [⟨(some 128), none, .load 1 true (.t 8)⟩, ⟨none, none, .store 1 (.t 4) (.t 128)⟩, ⟨(some 5), none, .mov (.k (.int .i64 0))⟩]) .ret))))))))))
theorem Gs : aF Try.prog (Try.f40.body.getD .skip) = some EF := by kernel_rfl
set_option maxHeartbeats 40000000 in
theorem EP (x : GNb) (e : GEdit) (hval0 : dB x.cells = true) (hin : inR e.kind 1 6 = true) (hwl : D.wfs (x.cells.map GCell.toD)) (hew : e.toD.wf) : gY Try.prog 40 [x.toD, e.toD] (.tup [(true, [.sl false ((chg x.cells e).1.map GCell.toD)]), (false, [.raw (.int .i64 (chg x.cells e).2)])]) := by
  refine LY (fn := Try.f40) (r := .cell 4 26) (q := .tmp 5) (by kernel_rfl) (by kernel_rfl) (by kernel_rfl) (by kernel_rfl) Gs ?_
  have hlen := kJ hval0
  have hwc : e.cell.toD.wf := hew.2.2.1
  have h6 : e.kind = 1 ∨ e.kind = 2 ∨ e.kind = 3 ∨ e.kind = 4 ∨ e.kind = 5 ∨ e.kind = 6 := by
    unfold inR at hin
    simp at hin
    omega
  change AWP _ _ _ (stN true 129 _)
  unfold EF
  refine sS trivial ?_
  rcases h6 with hk0 | hk0 | hk0 | hk0 | hk0 | hk0
  · -- kind 1
    have he : e.kind = 1 := hk0
    have k1 : (e.kind == 1) = true := by rw [he]; rfl
    have k1n : (e.kind != 1) = false := by rw [he]; rfl
    have k2 : (e.kind == 2) = false := by rw [he]; rfl
    have k2n : (e.kind != 2) = true := by rw [he]; rfl
    have k3 : (e.kind == 3) = false := by rw [he]; rfl
    have k3n : (e.kind != 3) = true := by rw [he]; rfl
    have k4 : (e.kind == 4) = false := by rw [he]; rfl
    have k4n : (e.kind != 4) = true := by rw [he]; rfl
    have k5 : (e.kind == 5) = false := by rw [he]; rfl
    have k5n : (e.kind != 5) = true := by rw [he]; rfl
    have k6 : (e.kind == 6) = false := by rw [he]; rfl
    have k6n : (e.kind != 6) = true := by rw [he]; rfl
    cases v1 : bI e.cell with
    | false =>
      rcases dG x.cells e.cell.id with hx | ⟨k, hkl, hx⟩
      · have hci : aK _ _ _ _ := hx ▸ bC x e.cell.id
        have hC : chg x.cells e = (x.cells, 1) := by simp [chg, he, v1]
        rw [hC]
        repeat' (first | ((with_reducible refine hK _ ?_); clear hK K) | (with_reducible refine ak ?_ ?_) | ((with_reducible refine gi ?_); first | (refine aB ?_ ?_; rfl) | (refine aC ?_ ?_; (rfl; refine gF ?_))) | ((with_reducible refine gxi ?_); first | (refine aO ?_ ?_; rfl) | (refine aP ?_ ?_; (rfl; refine gxF ?_))) | ((with_reducible refine aU ?_); first | refine au (hc := hci) (h := ?_) | refine au (hc := (aX e.cell hwc)) (h := ?_)) | ((with_reducible refine bG ?_); first | refine ay (hc := hci) (h := ?_) | refine ay (hc := (aX e.cell hwc)) (h := ?_)) | ((with_reducible refine aH ?_); refine ss (XR @GCell.el (XR k1 (XR k1n (XR k2 (XR k2n (XR k3 (XR k3n (XR k4 (XR k4n (XR k5 (XR k5n (XR k6 (XR k6n v1))))))))))))) ?_) | ((with_reducible refine bJ ?_); refine sx (XR @GCell.el (XR k1 (XR k1n (XR k2 (XR k2n (XR k3 (XR k3n (XR k4 (XR k4n (XR k5 (XR k5n (XR k6 (XR k6n v1))))))))))))) ?_) | refine nv ?_ | (refine rD ?_; intro K hK) | exact aZ | exact aI)
        exact aS ⟨⟨2, _, rfl, rfl, ⟨rfl, rfl⟩, trivial⟩, ⟨_, rfl, rfl, trivial⟩⟩
      · have hci : aK _ _ _ _ := hx ▸ bC x e.cell.id
        have hC : chg x.cells e = (x.cells, 1) := by simp [chg, he, v1]
        rw [hC]
        repeat' (first | ((with_reducible refine hK _ ?_); clear hK K) | (with_reducible refine ak ?_ ?_) | ((with_reducible refine gi ?_); first | (refine aB ?_ ?_; rfl) | (refine aC ?_ ?_; (rfl; refine gF ?_))) | ((with_reducible refine gxi ?_); first | (refine aO ?_ ?_; rfl) | (refine aP ?_ ?_; (rfl; refine gxF ?_))) | ((with_reducible refine aU ?_); first | refine au (hc := hci) (h := ?_) | refine au (hc := (aX e.cell hwc)) (h := ?_)) | ((with_reducible refine bG ?_); first | refine ay (hc := hci) (h := ?_) | refine ay (hc := (aX e.cell hwc)) (h := ?_)) | ((with_reducible refine aH ?_); refine ss (XR @GCell.el (XR k1 (XR k1n (XR k2 (XR k2n (XR k3 (XR k3n (XR k4 (XR k4n (XR k5 (XR k5n (XR k6 (XR k6n v1))))))))))))) ?_) | ((with_reducible refine bJ ?_); refine sx (XR @GCell.el (XR k1 (XR k1n (XR k2 (XR k2n (XR k3 (XR k3n (XR k4 (XR k4n (XR k5 (XR k5n (XR k6 (XR k6n v1))))))))))))) ?_) | refine nv ?_ | (refine rD ?_; intro K hK) | exact aZ | exact aI)
        exact aS ⟨⟨2, _, rfl, rfl, ⟨rfl, rfl⟩, trivial⟩, ⟨_, rfl, rfl, trivial⟩⟩
    | true =>
      rcases dG x.cells e.cell.id with hx | ⟨k, hkl, hx⟩
      · have hci : aK _ _ _ _ := hx ▸ bC x e.cell.id
        have g : decide ((-1 : Int) ≥ 0) = false := by decide
        by_cases hl : 8 ≤ x.cells.length
        · have gl : decide ((x.cells.length : Int) ≥ 8) = true := by simp; omega
          have hC : chg x.cells e = (x.cells, 4) := by simp [chg, he, v1, hx, hl]
          rw [hC]
          repeat' (first | ((with_reducible refine hK _ ?_); clear hK K) | (with_reducible refine ak ?_ ?_) | ((with_reducible refine gi ?_); first | (refine aB ?_ ?_; rfl) | (refine aC ?_ ?_; (rfl; refine gF ?_))) | ((with_reducible refine gxi ?_); first | (refine aO ?_ ?_; rfl) | (refine aP ?_ ?_; (rfl; refine gxF ?_))) | ((with_reducible refine aU ?_); first | refine au (hc := hci) (h := ?_) | refine au (hc := (aX e.cell hwc)) (h := ?_)) | ((with_reducible refine bG ?_); first | refine ay (hc := hci) (h := ?_) | refine ay (hc := (aX e.cell hwc)) (h := ?_)) | ((with_reducible refine aH ?_); refine ss (XR @GCell.el (XR k1 (XR k1n (XR k2 (XR k2n (XR k3 (XR k3n (XR k4 (XR k4n (XR k5 (XR k5n (XR k6 (XR k6n (XR v1 (XR g gl))))))))))))))) ?_) | ((with_reducible refine bJ ?_); refine sx (XR @GCell.el (XR k1 (XR k1n (XR k2 (XR k2n (XR k3 (XR k3n (XR k4 (XR k4n (XR k5 (XR k5n (XR k6 (XR k6n (XR v1 (XR g gl))))))))))))))) ?_) | refine nv ?_ | (refine rD ?_; intro K hK) | exact aZ | exact aI)
          exact aS ⟨⟨2, _, rfl, rfl, ⟨rfl, rfl⟩, trivial⟩, ⟨_, rfl, rfl, trivial⟩⟩
        · have gl : decide ((x.cells.length : Int) ≥ 8) = false := by simp; omega
          have hC : chg x.cells e = (l7 x.cells (fP e.pos x.cells.length) e.cell, 0) := by simp [chg, he, v1, hx, hl]
          rw [hC]
          repeat' (first | ((with_reducible refine hK _ ?_); clear hK K) | (with_reducible refine ak ?_ ?_) | ((with_reducible refine gi ?_); first | (refine aB ?_ ?_; rfl) | (refine aC ?_ ?_; (rfl; refine gF ?_))) | ((with_reducible refine gxi ?_); first | (refine aO ?_ ?_; rfl) | (refine aP ?_ ?_; (rfl; refine gxF ?_))) | ((with_reducible refine aU ?_); first | refine au (hc := hci) (h := ?_) | refine au (hc := (aX e.cell hwc)) (h := ?_) | refine au (hc := (kL x.cells e.pos e.cell (by omega))) (h := ?_)) | ((with_reducible refine bG ?_); first | refine ay (hc := hci) (h := ?_) | refine ay (hc := (aX e.cell hwc)) (h := ?_) | refine ay (hc := (kL x.cells e.pos e.cell (by omega))) (h := ?_)) | ((with_reducible refine aH ?_); refine ss (XR @GCell.el (XR k1 (XR k1n (XR k2 (XR k2n (XR k3 (XR k3n (XR k4 (XR k4n (XR k5 (XR k5n (XR k6 (XR k6n (XR v1 (XR g gl))))))))))))))) ?_) | ((with_reducible refine bJ ?_); refine sx (XR @GCell.el (XR k1 (XR k1n (XR k2 (XR k2n (XR k3 (XR k3n (XR k4 (XR k4n (XR k5 (XR k5n (XR k6 (XR k6n (XR v1 (XR g gl))))))))))))))) ?_) | refine nv ?_ | (refine rD ?_; intro K hK) | exact aZ | exact aI)
          exact aS ⟨⟨2, _, rfl, rfl, ⟨rfl, rfl⟩, trivial⟩, ⟨_, rfl, rfl, trivial⟩⟩
      · have hci : aK _ _ _ _ := hx ▸ bC x e.cell.id
        have g : decide ((k : Int) ≥ 0) = true := by simp
        have hC : chg x.cells e = (x.cells, 3) := by simp [chg, he, v1, hx]
        rw [hC]
        repeat' (first | ((with_reducible refine hK _ ?_); clear hK K) | (with_reducible refine ak ?_ ?_) | ((with_reducible refine gi ?_); first | (refine aB ?_ ?_; rfl) | (refine aC ?_ ?_; (rfl; refine gF ?_))) | ((with_reducible refine gxi ?_); first | (refine aO ?_ ?_; rfl) | (refine aP ?_ ?_; (rfl; refine gxF ?_))) | ((with_reducible refine aU ?_); first | refine au (hc := hci) (h := ?_) | refine au (hc := (aX e.cell hwc)) (h := ?_)) | ((with_reducible refine bG ?_); first | refine ay (hc := hci) (h := ?_) | refine ay (hc := (aX e.cell hwc)) (h := ?_)) | ((with_reducible refine aH ?_); refine ss (XR @GCell.el (XR k1 (XR k1n (XR k2 (XR k2n (XR k3 (XR k3n (XR k4 (XR k4n (XR k5 (XR k5n (XR k6 (XR k6n (XR v1 g)))))))))))))) ?_) | ((with_reducible refine bJ ?_); refine sx (XR @GCell.el (XR k1 (XR k1n (XR k2 (XR k2n (XR k3 (XR k3n (XR k4 (XR k4n (XR k5 (XR k5n (XR k6 (XR k6n (XR v1 g)))))))))))))) ?_) | refine nv ?_ | (refine rD ?_; intro K hK) | exact aZ | exact aI)
        exact aS ⟨⟨2, _, rfl, rfl, ⟨rfl, rfl⟩, trivial⟩, ⟨_, rfl, rfl, trivial⟩⟩
  · -- kind 2
    have he : e.kind = 2 := hk0
    have k1 : (e.kind == 1) = false := by rw [he]; rfl
    have k1n : (e.kind != 1) = true := by rw [he]; rfl
    have k2 : (e.kind == 2) = true := by rw [he]; rfl
    have k2n : (e.kind != 2) = false := by rw [he]; rfl
    have k3 : (e.kind == 3) = false := by rw [he]; rfl
    have k3n : (e.kind != 3) = true := by rw [he]; rfl
    have k4 : (e.kind == 4) = false := by rw [he]; rfl
    have k4n : (e.kind != 4) = true := by rw [he]; rfl
    have k5 : (e.kind == 5) = false := by rw [he]; rfl
    have k5n : (e.kind != 5) = true := by rw [he]; rfl
    have k6 : (e.kind == 6) = false := by rw [he]; rfl
    have k6n : (e.kind != 6) = true := by rw [he]; rfl
    rcases dG x.cells e.cell.id with hx | ⟨k, hkl, hx⟩
    · have hci : aK _ _ _ _ := hx ▸ bC x e.cell.id
      have g : decide ((-1 : Int) < 0) = true := by decide
      have hC : chg x.cells e = (x.cells, 2) := by simp [chg, he, hx]
      rw [hC]
      repeat' (first | ((with_reducible refine hK _ ?_); clear hK K) | (with_reducible refine ak ?_ ?_) | ((with_reducible refine gi ?_); first | (refine aB ?_ ?_; rfl) | (refine aC ?_ ?_; (rfl; refine gF ?_))) | ((with_reducible refine gxi ?_); first | (refine aO ?_ ?_; rfl) | (refine aP ?_ ?_; (rfl; refine gxF ?_))) | ((with_reducible refine aU ?_); first | refine au (hc := hci) (h := ?_)) | ((with_reducible refine bG ?_); first | refine ay (hc := hci) (h := ?_)) | ((with_reducible refine aH ?_); refine ss (XR @GCell.el (XR k1 (XR k1n (XR k2 (XR k2n (XR k3 (XR k3n (XR k4 (XR k4n (XR k5 (XR k5n (XR k6 (XR k6n g))))))))))))) ?_) | ((with_reducible refine bJ ?_); refine sx (XR @GCell.el (XR k1 (XR k1n (XR k2 (XR k2n (XR k3 (XR k3n (XR k4 (XR k4n (XR k5 (XR k5n (XR k6 (XR k6n g))))))))))))) ?_) | refine nv ?_ | (refine rD ?_; intro K hK) | exact aZ | exact aI)
      exact aS ⟨⟨2, _, rfl, rfl, ⟨rfl, rfl⟩, trivial⟩, ⟨_, rfl, rfl, trivial⟩⟩
    · have hci : aK _ _ _ _ := hx ▸ bC x e.cell.id
      have g : decide ((k : Int) < 0) = false := by simp
      have hg := dR GCell.toD x.cells hkl
      have hget : x.cells[k]? = some x.cells[k] := List.getElem?_eq_getElem hkl
      have hC : chg x.cells e = (gV x.cells k, 0) := by simp [chg, he, hx, hget]
      rw [hC]
      repeat' (first | ((with_reducible refine hK _ ?_); clear hK K) | (with_reducible refine ak ?_ ?_) | ((with_reducible refine gi ?_); first | (refine aB ?_ ?_; rfl) | (refine aC ?_ ?_; (rfl; refine gF ?_))) | ((with_reducible refine gxi ?_); first | (refine aO ?_ ?_; rfl) | (refine aP ?_ ?_; (rfl; refine gxF ?_))) | ((with_reducible refine aU ?_); first | refine au (hc := hci) (h := ?_) | refine au (hc := (lC x.cells k hkl (by omega))) (h := ?_)) | ((with_reducible refine bG ?_); first | refine ay (hc := hci) (h := ?_) | refine ay (hc := (lC x.cells k hkl (by omega))) (h := ?_)) | ((with_reducible refine aH ?_); refine ss (XR @GCell.el (XR k1 (XR k1n (XR k2 (XR k2n (XR k3 (XR k3n (XR k4 (XR k4n (XR k5 (XR k5n (XR k6 (XR k6n (XR g (XR hg hkl))))))))))))))) ?_) | ((with_reducible refine bJ ?_); refine sx (XR @GCell.el (XR k1 (XR k1n (XR k2 (XR k2n (XR k3 (XR k3n (XR k4 (XR k4n (XR k5 (XR k5n (XR k6 (XR k6n (XR g (XR hg hkl))))))))))))))) ?_) | refine nv ?_ | (refine rD ?_; intro K hK) | exact aZ | exact aI)
      exact aS ⟨⟨2, _, rfl, rfl, ⟨rfl, rfl⟩, trivial⟩, ⟨_, rfl, rfl, trivial⟩⟩
  · -- kind 3
    have he : e.kind = 3 := hk0
    have k1 : (e.kind == 1) = false := by rw [he]; rfl
    have k1n : (e.kind != 1) = true := by rw [he]; rfl
    have k2 : (e.kind == 2) = false := by rw [he]; rfl
    have k2n : (e.kind != 2) = true := by rw [he]; rfl
    have k3 : (e.kind == 3) = true := by rw [he]; rfl
    have k3n : (e.kind != 3) = false := by rw [he]; rfl
    have k4 : (e.kind == 4) = false := by rw [he]; rfl
    have k4n : (e.kind != 4) = true := by rw [he]; rfl
    have k5 : (e.kind == 5) = false := by rw [he]; rfl
    have k5n : (e.kind != 5) = true := by rw [he]; rfl
    have k6 : (e.kind == 6) = false := by rw [he]; rfl
    have k6n : (e.kind != 6) = true := by rw [he]; rfl
    rcases dG x.cells e.cell.id with hx | ⟨k, hkl, hx⟩
    · have hci : aK _ _ _ _ := hx ▸ bC x e.cell.id
      have g : decide ((-1 : Int) < 0) = true := by decide
      have hC : chg x.cells e = (x.cells, 2) := by simp [chg, he, hx]
      rw [hC]
      repeat' (first | ((with_reducible refine hK _ ?_); clear hK K) | (with_reducible refine ak ?_ ?_) | ((with_reducible refine gi ?_); first | (refine aB ?_ ?_; rfl) | (refine aC ?_ ?_; (rfl; refine gF ?_))) | ((with_reducible refine gxi ?_); first | (refine aO ?_ ?_; rfl) | (refine aP ?_ ?_; (rfl; refine gxF ?_))) | ((with_reducible refine aU ?_); first | refine au (hc := hci) (h := ?_)) | ((with_reducible refine bG ?_); first | refine ay (hc := hci) (h := ?_)) | ((with_reducible refine aH ?_); refine ss (XR @GCell.el (XR k1 (XR k1n (XR k2 (XR k2n (XR k3 (XR k3n (XR k4 (XR k4n (XR k5 (XR k5n (XR k6 (XR k6n g))))))))))))) ?_) | ((with_reducible refine bJ ?_); refine sx (XR @GCell.el (XR k1 (XR k1n (XR k2 (XR k2n (XR k3 (XR k3n (XR k4 (XR k4n (XR k5 (XR k5n (XR k6 (XR k6n g))))))))))))) ?_) | refine nv ?_ | (refine rD ?_; intro K hK) | exact aZ | exact aI)
      exact aS ⟨⟨2, _, rfl, rfl, ⟨rfl, rfl⟩, trivial⟩, ⟨_, rfl, rfl, trivial⟩⟩
    · have hci : aK _ _ _ _ := hx ▸ bC x e.cell.id
      have g : decide ((k : Int) < 0) = false := by simp
      have hg := dR GCell.toD x.cells hkl
      have hget : x.cells[k]? = some x.cells[k] := List.getElem?_eq_getElem hkl
      have hdl := sJ x.cells k
      have hC : chg x.cells e = (l7 (gV x.cells k) (fP e.pos (gV x.cells k).length) x.cells[k], 0) := by simp [chg, he, hx, hget]
      rw [hC]
      repeat' (first | ((with_reducible refine hK _ ?_); clear hK K) | (with_reducible refine ak ?_ ?_) | ((with_reducible refine gi ?_); first | (refine aB ?_ ?_; rfl) | (refine aC ?_ ?_; (rfl; refine gF ?_))) | ((with_reducible refine gxi ?_); first | (refine aO ?_ ?_; rfl) | (refine aP ?_ ?_; (rfl; refine gxF ?_))) | ((with_reducible refine aU ?_); first | refine au (hc := hci) (h := ?_) | refine au (hc := (lC x.cells k hkl (by omega))) (h := ?_) | refine au (hc := (kL (gV x.cells k) e.pos x.cells[k] (by omega))) (h := ?_)) | ((with_reducible refine bG ?_); first | refine ay (hc := hci) (h := ?_) | refine ay (hc := (lC x.cells k hkl (by omega))) (h := ?_) | refine ay (hc := (kL (gV x.cells k) e.pos x.cells[k] (by omega))) (h := ?_)) | ((with_reducible refine aH ?_); refine ss (XR @GCell.el (XR k1 (XR k1n (XR k2 (XR k2n (XR k3 (XR k3n (XR k4 (XR k4n (XR k5 (XR k5n (XR k6 (XR k6n (XR g (XR hg hkl))))))))))))))) ?_) | ((with_reducible refine bJ ?_); refine sx (XR @GCell.el (XR k1 (XR k1n (XR k2 (XR k2n (XR k3 (XR k3n (XR k4 (XR k4n (XR k5 (XR k5n (XR k6 (XR k6n (XR g (XR hg hkl))))))))))))))) ?_) | refine nv ?_ | (refine rD ?_; intro K hK) | exact aZ | exact aI)
      exact aS ⟨⟨2, _, rfl, rfl, ⟨rfl, rfl⟩, trivial⟩, ⟨_, rfl, rfl, trivial⟩⟩
  · -- kind 4
    have he : e.kind = 4 := hk0
    have k1 : (e.kind == 1) = false := by rw [he]; rfl
    have k1n : (e.kind != 1) = true := by rw [he]; rfl
    have k2 : (e.kind == 2) = false := by rw [he]; rfl
    have k2n : (e.kind != 2) = true := by rw [he]; rfl
    have k3 : (e.kind == 3) = false := by rw [he]; rfl
    have k3n : (e.kind != 3) = true := by rw [he]; rfl
    have k4 : (e.kind == 4) = true := by rw [he]; rfl
    have k4n : (e.kind != 4) = false := by rw [he]; rfl
    have k5 : (e.kind == 5) = false := by rw [he]; rfl
    have k5n : (e.kind != 5) = true := by rw [he]; rfl
    have k6 : (e.kind == 6) = false := by rw [he]; rfl
    have k6n : (e.kind != 6) = true := by rw [he]; rfl
    rcases dG x.cells e.cell.id with hx | ⟨k, hkl, hx⟩
    · have hci : aK _ _ _ _ := hx ▸ bC x e.cell.id
      have g : decide ((-1 : Int) < 0) = true := by decide
      have hC : chg x.cells e = (x.cells, 2) := by simp [chg, he, hx]
      rw [hC]
      repeat' (first | ((with_reducible refine hK _ ?_); clear hK K) | (with_reducible refine ak ?_ ?_) | ((with_reducible refine gi ?_); first | (refine aB ?_ ?_; rfl) | (refine aC ?_ ?_; (rfl; refine gF ?_))) | ((with_reducible refine gxi ?_); first | (refine aO ?_ ?_; rfl) | (refine aP ?_ ?_; (rfl; refine gxF ?_))) | ((with_reducible refine aU ?_); first | refine au (hc := hci) (h := ?_)) | ((with_reducible refine bG ?_); first | refine ay (hc := hci) (h := ?_)) | ((with_reducible refine aH ?_); refine ss (XR @GCell.el (XR k1 (XR k1n (XR k2 (XR k2n (XR k3 (XR k3n (XR k4 (XR k4n (XR k5 (XR k5n (XR k6 (XR k6n g))))))))))))) ?_) | ((with_reducible refine bJ ?_); refine sx (XR @GCell.el (XR k1 (XR k1n (XR k2 (XR k2n (XR k3 (XR k3n (XR k4 (XR k4n (XR k5 (XR k5n (XR k6 (XR k6n g))))))))))))) ?_) | refine nv ?_ | (refine rD ?_; intro K hK) | exact aZ | exact aI)
      exact aS ⟨⟨2, _, rfl, rfl, ⟨rfl, rfl⟩, trivial⟩, ⟨_, rfl, rfl, trivial⟩⟩
    · have hci : aK _ _ _ _ := hx ▸ bC x e.cell.id
      have g : decide ((k : Int) < 0) = false := by simp
      have hg := dR GCell.toD x.cells hkl
      have hget : x.cells[k]? = some x.cells[k] := List.getElem?_eq_getElem hkl
      have hvc := nG hval0 hkl
      have hvv := nD hvc
      have hwx := wfs_get hwl hkl
      have hwr := pO hvv
      have hwf := lS hwx hew hvv
      have hN : bg x.cells[k] e = ⟨x.cells[k].id, x.cells[k].ver + 1, x.cells[k].kind, e.cell.name, e.cell.code, x.cells[k].n⟩ := by simp [bg, he]
      cases tk : (x.cells[k].kind == 3) with
      | true =>
        have tkn : (x.cells[k].kind != 3) = false := by simp only [bne, tk]; rfl
        have hcd : aV x.cells[k] e = 5 := by simp [aV, he, tk]
        have hC : chg x.cells e = (x.cells, 5) := by simp [chg, he, hx, hget, hcd]
        rw [hC]
        repeat' (first | ((with_reducible refine hK _ ?_); clear hK K) | (with_reducible refine ak ?_ ?_) | ((with_reducible refine gi ?_); first | (refine aB ?_ ?_; rfl) | (refine aC ?_ ?_; (rfl; refine gF ?_))) | ((with_reducible refine gxi ?_); first | (refine aO ?_ ?_; rfl) | (refine aP ?_ ?_; (rfl; refine gxF ?_))) | ((with_reducible refine aU ?_); first | refine au (hc := hci) (h := ?_)) | ((with_reducible refine bG ?_); first | refine ay (hc := hci) (h := ?_)) | ((with_reducible refine aH ?_); refine ss (XR @GCell.el (XR k1 (XR k1n (XR k2 (XR k2n (XR k3 (XR k3n (XR k4 (XR k4n (XR k5 (XR k5n (XR k6 (XR k6n (XR g (XR hg (XR hkl (XR tk (XR tkn hwr)))))))))))))))))) ?_) | ((with_reducible refine bJ ?_); refine sx (XR @GCell.el (XR k1 (XR k1n (XR k2 (XR k2n (XR k3 (XR k3n (XR k4 (XR k4n (XR k5 (XR k5n (XR k6 (XR k6n (XR g (XR hg (XR hkl (XR tk (XR tkn hwr)))))))))))))))))) ?_) | refine nv ?_ | (refine rD ?_; intro K hK) | exact aZ | exact aI)
        exact aS ⟨⟨2, _, rfl, rfl, ⟨rfl, rfl⟩, trivial⟩, ⟨_, rfl, rfl, trivial⟩⟩
      | false =>
        have tkn : (x.cells[k].kind != 3) = true := by simp only [bne, tk]; rfl
        cases tv : (x.cells[k].ver == 999) with
        | true =>
          have vge : decide (x.cells[k].ver ≥ 999) = true := by simp at tv ⊢; omega
          have hcd : aV x.cells[k] e = 6 := by simp [aV, he, tk, tv]
          have hC : chg x.cells e = (x.cells, 6) := by simp [chg, he, hx, hget, hcd]
          rw [hC]
          repeat' (first | ((with_reducible refine hK _ ?_); clear hK K) | (with_reducible refine ak ?_ ?_) | ((with_reducible refine gi ?_); first | (refine aB ?_ ?_; rfl) | (refine aC ?_ ?_; (rfl; refine gF ?_))) | ((with_reducible refine gxi ?_); first | (refine aO ?_ ?_; rfl) | (refine aP ?_ ?_; (rfl; refine gxF ?_))) | ((with_reducible refine aU ?_); first | refine au (hc := hci) (h := ?_)) | ((with_reducible refine bG ?_); first | refine ay (hc := hci) (h := ?_)) | ((with_reducible refine aH ?_); refine ss (XR @GCell.el (XR k1 (XR k1n (XR k2 (XR k2n (XR k3 (XR k3n (XR k4 (XR k4n (XR k5 (XR k5n (XR k6 (XR k6n (XR g (XR hg (XR hkl (XR tk (XR tkn (XR tv (XR vge hwr)))))))))))))))))))) ?_) | ((with_reducible refine bJ ?_); refine sx (XR @GCell.el (XR k1 (XR k1n (XR k2 (XR k2n (XR k3 (XR k3n (XR k4 (XR k4n (XR k5 (XR k5n (XR k6 (XR k6n (XR g (XR hg (XR hkl (XR tk (XR tkn (XR tv (XR vge hwr)))))))))))))))))))) ?_) | refine nv ?_ | (refine rD ?_; intro K hK) | exact aZ | exact aI)
          exact aS ⟨⟨2, _, rfl, rfl, ⟨rfl, rfl⟩, trivial⟩, ⟨_, rfl, rfl, trivial⟩⟩
        | false =>
          have vge : decide (x.cells[k].ver ≥ 999) = false := by simp at tv ⊢; omega
          cases vN : bI (bg x.cells[k] e) with
          | true =>
            have hvN := vN
            rw [hN] at hvN hwf
            have hcd : aV x.cells[k] e = 0 := by simp [aV, he, vN, tk, tv]
            have hC : chg x.cells e = (x.cells.set k (bg x.cells[k] e), 0) := by simp [chg, he, hx, hget, hcd]
            rw [hC]
            repeat' (first | ((with_reducible refine hK _ ?_); clear hK K) | (with_reducible refine ak ?_ ?_) | ((with_reducible refine gi ?_); first | (refine aB ?_ ?_; rfl) | (refine aC ?_ ?_; (rfl; refine gF ?_))) | ((with_reducible refine gxi ?_); first | (refine aO ?_ ?_; rfl) | (refine aP ?_ ?_; (rfl; refine gxF ?_))) | ((with_reducible refine aU ?_); first | refine au (hc := hci) (h := ?_) | refine au (hc := (aX ⟨x.cells[k].id, x.cells[k].ver + 1, x.cells[k].kind, e.cell.name, e.cell.code, x.cells[k].n⟩ hwf)) (h := ?_) | (refine dP (mg x (by omega)) (GCell.el _) ?_ ?_)) | ((with_reducible refine bG ?_); first | refine ay (hc := hci) (h := ?_) | refine ay (hc := (aX ⟨x.cells[k].id, x.cells[k].ver + 1, x.cells[k].kind, e.cell.name, e.cell.code, x.cells[k].n⟩ hwf)) (h := ?_)) | ((with_reducible refine aH ?_); refine ss (XR @GCell.el (XR k1 (XR k1n (XR k2 (XR k2n (XR k3 (XR k3n (XR k4 (XR k4n (XR k5 (XR k5n (XR k6 (XR k6n (XR g (XR hg (XR hkl (XR tk (XR tkn (XR tv (XR vge (XR hvN hwr))))))))))))))))))))) ?_) | ((with_reducible refine bJ ?_); refine sx (XR @GCell.el (XR k1 (XR k1n (XR k2 (XR k2n (XR k3 (XR k3n (XR k4 (XR k4n (XR k5 (XR k5n (XR k6 (XR k6n (XR g (XR hg (XR hkl (XR tk (XR tkn (XR tv (XR vge (XR hvN hwr))))))))))))))))))))) ?_) | refine nv ?_ | (refine rD ?_; intro K hK) | exact aZ | exact aI)
            exact aS ⟨⟨2, _, rfl, rfl, ⟨_, rfl, rfl, by rw [← nK, hN]; rfl, Or.inr (GCell.dK _)⟩, trivial⟩, ⟨_, rfl, rfl, trivial⟩⟩
          | false =>
            have hvN := vN
            rw [hN] at hvN hwf
            have hcd : aV x.cells[k] e = 1 := by simp [aV, he, vN, tk, tv]
            have hC : chg x.cells e = (x.cells, 1) := by simp [chg, he, hx, hget, hcd]
            rw [hC]
            repeat' (first | ((with_reducible refine hK _ ?_); clear hK K) | (with_reducible refine ak ?_ ?_) | ((with_reducible refine gi ?_); first | (refine aB ?_ ?_; rfl) | (refine aC ?_ ?_; (rfl; refine gF ?_))) | ((with_reducible refine gxi ?_); first | (refine aO ?_ ?_; rfl) | (refine aP ?_ ?_; (rfl; refine gxF ?_))) | ((with_reducible refine aU ?_); first | refine au (hc := hci) (h := ?_) | refine au (hc := (aX ⟨x.cells[k].id, x.cells[k].ver + 1, x.cells[k].kind, e.cell.name, e.cell.code, x.cells[k].n⟩ hwf)) (h := ?_)) | ((with_reducible refine bG ?_); first | refine ay (hc := hci) (h := ?_) | refine ay (hc := (aX ⟨x.cells[k].id, x.cells[k].ver + 1, x.cells[k].kind, e.cell.name, e.cell.code, x.cells[k].n⟩ hwf)) (h := ?_)) | ((with_reducible refine aH ?_); refine ss (XR @GCell.el (XR k1 (XR k1n (XR k2 (XR k2n (XR k3 (XR k3n (XR k4 (XR k4n (XR k5 (XR k5n (XR k6 (XR k6n (XR g (XR hg (XR hkl (XR tk (XR tkn (XR tv (XR vge (XR hvN hwr))))))))))))))))))))) ?_) | ((with_reducible refine bJ ?_); refine sx (XR @GCell.el (XR k1 (XR k1n (XR k2 (XR k2n (XR k3 (XR k3n (XR k4 (XR k4n (XR k5 (XR k5n (XR k6 (XR k6n (XR g (XR hg (XR hkl (XR tk (XR tkn (XR tv (XR vge (XR hvN hwr))))))))))))))))))))) ?_) | refine nv ?_ | (refine rD ?_; intro K hK) | exact aZ | exact aI)
            exact aS ⟨⟨2, _, rfl, rfl, ⟨rfl, rfl⟩, trivial⟩, ⟨_, rfl, rfl, trivial⟩⟩
  · -- kind 5
    have he : e.kind = 5 := hk0
    have k1 : (e.kind == 1) = false := by rw [he]; rfl
    have k1n : (e.kind != 1) = true := by rw [he]; rfl
    have k2 : (e.kind == 2) = false := by rw [he]; rfl
    have k2n : (e.kind != 2) = true := by rw [he]; rfl
    have k3 : (e.kind == 3) = false := by rw [he]; rfl
    have k3n : (e.kind != 3) = true := by rw [he]; rfl
    have k4 : (e.kind == 4) = false := by rw [he]; rfl
    have k4n : (e.kind != 4) = true := by rw [he]; rfl
    have k5 : (e.kind == 5) = true := by rw [he]; rfl
    have k5n : (e.kind != 5) = false := by rw [he]; rfl
    have k6 : (e.kind == 6) = false := by rw [he]; rfl
    have k6n : (e.kind != 6) = true := by rw [he]; rfl
    rcases dG x.cells e.cell.id with hx | ⟨k, hkl, hx⟩
    · have hci : aK _ _ _ _ := hx ▸ bC x e.cell.id
      have g : decide ((-1 : Int) < 0) = true := by decide
      have hC : chg x.cells e = (x.cells, 2) := by simp [chg, he, hx]
      rw [hC]
      repeat' (first | ((with_reducible refine hK _ ?_); clear hK K) | (with_reducible refine ak ?_ ?_) | ((with_reducible refine gi ?_); first | (refine aB ?_ ?_; rfl) | (refine aC ?_ ?_; (rfl; refine gF ?_))) | ((with_reducible refine gxi ?_); first | (refine aO ?_ ?_; rfl) | (refine aP ?_ ?_; (rfl; refine gxF ?_))) | ((with_reducible refine aU ?_); first | refine au (hc := hci) (h := ?_)) | ((with_reducible refine bG ?_); first | refine ay (hc := hci) (h := ?_)) | ((with_reducible refine aH ?_); refine ss (XR @GCell.el (XR k1 (XR k1n (XR k2 (XR k2n (XR k3 (XR k3n (XR k4 (XR k4n (XR k5 (XR k5n (XR k6 (XR k6n g))))))))))))) ?_) | ((with_reducible refine bJ ?_); refine sx (XR @GCell.el (XR k1 (XR k1n (XR k2 (XR k2n (XR k3 (XR k3n (XR k4 (XR k4n (XR k5 (XR k5n (XR k6 (XR k6n g))))))))))))) ?_) | refine nv ?_ | (refine rD ?_; intro K hK) | exact aZ | exact aI)
      exact aS ⟨⟨2, _, rfl, rfl, ⟨rfl, rfl⟩, trivial⟩, ⟨_, rfl, rfl, trivial⟩⟩
    · have hci : aK _ _ _ _ := hx ▸ bC x e.cell.id
      have g : decide ((k : Int) < 0) = false := by simp
      have hg := dR GCell.toD x.cells hkl
      have hget : x.cells[k]? = some x.cells[k] := List.getElem?_eq_getElem hkl
      have hvc := nG hval0 hkl
      have hvv := nD hvc
      have hwx := wfs_get hwl hkl
      have hwr := pO hvv
      have hwf := lS hwx hew hvv
      have hN : bg x.cells[k] e = ⟨x.cells[k].id, x.cells[k].ver, x.cells[k].kind, x.cells[k].name, x.cells[k].code, e.cell.n⟩ := by simp [bg, he]
      cases tk : (x.cells[k].kind == 3) with
      | true =>
        have tkn : (x.cells[k].kind != 3) = false := by simp only [bne, tk]; rfl
        cases vN : bI (bg x.cells[k] e) with
        | true =>
          have hvN := vN
          rw [hN] at hvN hwf
          have hcd : aV x.cells[k] e = 0 := by simp [aV, he, vN, tk]
          have hC : chg x.cells e = (x.cells.set k (bg x.cells[k] e), 0) := by simp [chg, he, hx, hget, hcd]
          rw [hC]
          repeat' (first | ((with_reducible refine hK _ ?_); clear hK K) | (with_reducible refine ak ?_ ?_) | ((with_reducible refine gi ?_); first | (refine aB ?_ ?_; rfl) | (refine aC ?_ ?_; (rfl; refine gF ?_))) | ((with_reducible refine gxi ?_); first | (refine aO ?_ ?_; rfl) | (refine aP ?_ ?_; (rfl; refine gxF ?_))) | ((with_reducible refine aU ?_); first | refine au (hc := hci) (h := ?_) | refine au (hc := (aX ⟨x.cells[k].id, x.cells[k].ver, x.cells[k].kind, x.cells[k].name, x.cells[k].code, e.cell.n⟩ hwf)) (h := ?_) | (refine dP (mg x (by omega)) (GCell.el _) ?_ ?_)) | ((with_reducible refine bG ?_); first | refine ay (hc := hci) (h := ?_) | refine ay (hc := (aX ⟨x.cells[k].id, x.cells[k].ver, x.cells[k].kind, x.cells[k].name, x.cells[k].code, e.cell.n⟩ hwf)) (h := ?_)) | ((with_reducible refine aH ?_); refine ss (XR @GCell.el (XR k1 (XR k1n (XR k2 (XR k2n (XR k3 (XR k3n (XR k4 (XR k4n (XR k5 (XR k5n (XR k6 (XR k6n (XR g (XR hg (XR hkl (XR tk (XR tkn (XR hvN hwr))))))))))))))))))) ?_) | ((with_reducible refine bJ ?_); refine sx (XR @GCell.el (XR k1 (XR k1n (XR k2 (XR k2n (XR k3 (XR k3n (XR k4 (XR k4n (XR k5 (XR k5n (XR k6 (XR k6n (XR g (XR hg (XR hkl (XR tk (XR tkn (XR hvN hwr))))))))))))))))))) ?_) | refine nv ?_ | (refine rD ?_; intro K hK) | exact aZ | exact aI)
          exact aS ⟨⟨2, _, rfl, rfl, ⟨_, rfl, rfl, by rw [← nK, hN]; rfl, Or.inr (GCell.dK _)⟩, trivial⟩, ⟨_, rfl, rfl, trivial⟩⟩
        | false =>
          have hvN := vN
          rw [hN] at hvN hwf
          have hcd : aV x.cells[k] e = 1 := by simp [aV, he, vN, tk]
          have hC : chg x.cells e = (x.cells, 1) := by simp [chg, he, hx, hget, hcd]
          rw [hC]
          repeat' (first | ((with_reducible refine hK _ ?_); clear hK K) | (with_reducible refine ak ?_ ?_) | ((with_reducible refine gi ?_); first | (refine aB ?_ ?_; rfl) | (refine aC ?_ ?_; (rfl; refine gF ?_))) | ((with_reducible refine gxi ?_); first | (refine aO ?_ ?_; rfl) | (refine aP ?_ ?_; (rfl; refine gxF ?_))) | ((with_reducible refine aU ?_); first | refine au (hc := hci) (h := ?_) | refine au (hc := (aX ⟨x.cells[k].id, x.cells[k].ver, x.cells[k].kind, x.cells[k].name, x.cells[k].code, e.cell.n⟩ hwf)) (h := ?_)) | ((with_reducible refine bG ?_); first | refine ay (hc := hci) (h := ?_) | refine ay (hc := (aX ⟨x.cells[k].id, x.cells[k].ver, x.cells[k].kind, x.cells[k].name, x.cells[k].code, e.cell.n⟩ hwf)) (h := ?_)) | ((with_reducible refine aH ?_); refine ss (XR @GCell.el (XR k1 (XR k1n (XR k2 (XR k2n (XR k3 (XR k3n (XR k4 (XR k4n (XR k5 (XR k5n (XR k6 (XR k6n (XR g (XR hg (XR hkl (XR tk (XR tkn (XR hvN hwr))))))))))))))))))) ?_) | ((with_reducible refine bJ ?_); refine sx (XR @GCell.el (XR k1 (XR k1n (XR k2 (XR k2n (XR k3 (XR k3n (XR k4 (XR k4n (XR k5 (XR k5n (XR k6 (XR k6n (XR g (XR hg (XR hkl (XR tk (XR tkn (XR hvN hwr))))))))))))))))))) ?_) | refine nv ?_ | (refine rD ?_; intro K hK) | exact aZ | exact aI)
          exact aS ⟨⟨2, _, rfl, rfl, ⟨rfl, rfl⟩, trivial⟩, ⟨_, rfl, rfl, trivial⟩⟩
      | false =>
        have tkn : (x.cells[k].kind != 3) = true := by simp only [bne, tk]; rfl
        have hcd : aV x.cells[k] e = 5 := by simp [aV, he, tk]
        have hC : chg x.cells e = (x.cells, 5) := by simp [chg, he, hx, hget, hcd]
        rw [hC]
        repeat' (first | ((with_reducible refine hK _ ?_); clear hK K) | (with_reducible refine ak ?_ ?_) | ((with_reducible refine gi ?_); first | (refine aB ?_ ?_; rfl) | (refine aC ?_ ?_; (rfl; refine gF ?_))) | ((with_reducible refine gxi ?_); first | (refine aO ?_ ?_; rfl) | (refine aP ?_ ?_; (rfl; refine gxF ?_))) | ((with_reducible refine aU ?_); first | refine au (hc := hci) (h := ?_)) | ((with_reducible refine bG ?_); first | refine ay (hc := hci) (h := ?_)) | ((with_reducible refine aH ?_); refine ss (XR @GCell.el (XR k1 (XR k1n (XR k2 (XR k2n (XR k3 (XR k3n (XR k4 (XR k4n (XR k5 (XR k5n (XR k6 (XR k6n (XR g (XR hg (XR hkl (XR tk (XR tkn hwr)))))))))))))))))) ?_) | ((with_reducible refine bJ ?_); refine sx (XR @GCell.el (XR k1 (XR k1n (XR k2 (XR k2n (XR k3 (XR k3n (XR k4 (XR k4n (XR k5 (XR k5n (XR k6 (XR k6n (XR g (XR hg (XR hkl (XR tk (XR tkn hwr)))))))))))))))))) ?_) | refine nv ?_ | (refine rD ?_; intro K hK) | exact aZ | exact aI)
        exact aS ⟨⟨2, _, rfl, rfl, ⟨rfl, rfl⟩, trivial⟩, ⟨_, rfl, rfl, trivial⟩⟩
  · -- kind 6
    have he : e.kind = 6 := hk0
    have k1 : (e.kind == 1) = false := by rw [he]; rfl
    have k1n : (e.kind != 1) = true := by rw [he]; rfl
    have k2 : (e.kind == 2) = false := by rw [he]; rfl
    have k2n : (e.kind != 2) = true := by rw [he]; rfl
    have k3 : (e.kind == 3) = false := by rw [he]; rfl
    have k3n : (e.kind != 3) = true := by rw [he]; rfl
    have k4 : (e.kind == 4) = false := by rw [he]; rfl
    have k4n : (e.kind != 4) = true := by rw [he]; rfl
    have k5 : (e.kind == 5) = false := by rw [he]; rfl
    have k5n : (e.kind != 5) = true := by rw [he]; rfl
    have k6 : (e.kind == 6) = true := by rw [he]; rfl
    have k6n : (e.kind != 6) = false := by rw [he]; rfl
    rcases dG x.cells e.cell.id with hx | ⟨k, hkl, hx⟩
    · have hci : aK _ _ _ _ := hx ▸ bC x e.cell.id
      have g : decide ((-1 : Int) < 0) = true := by decide
      have hC : chg x.cells e = (x.cells, 2) := by simp [chg, he, hx]
      rw [hC]
      repeat' (first | ((with_reducible refine hK _ ?_); clear hK K) | (with_reducible refine ak ?_ ?_) | ((with_reducible refine gi ?_); first | (refine aB ?_ ?_; rfl) | (refine aC ?_ ?_; (rfl; refine gF ?_))) | ((with_reducible refine gxi ?_); first | (refine aO ?_ ?_; rfl) | (refine aP ?_ ?_; (rfl; refine gxF ?_))) | ((with_reducible refine aU ?_); first | refine au (hc := hci) (h := ?_)) | ((with_reducible refine bG ?_); first | refine ay (hc := hci) (h := ?_)) | ((with_reducible refine aH ?_); refine ss (XR @GCell.el (XR k1 (XR k1n (XR k2 (XR k2n (XR k3 (XR k3n (XR k4 (XR k4n (XR k5 (XR k5n (XR k6 (XR k6n g))))))))))))) ?_) | ((with_reducible refine bJ ?_); refine sx (XR @GCell.el (XR k1 (XR k1n (XR k2 (XR k2n (XR k3 (XR k3n (XR k4 (XR k4n (XR k5 (XR k5n (XR k6 (XR k6n g))))))))))))) ?_) | refine nv ?_ | (refine rD ?_; intro K hK) | exact aZ | exact aI)
      exact aS ⟨⟨2, _, rfl, rfl, ⟨rfl, rfl⟩, trivial⟩, ⟨_, rfl, rfl, trivial⟩⟩
    · have hci : aK _ _ _ _ := hx ▸ bC x e.cell.id
      have g : decide ((k : Int) < 0) = false := by simp
      have hg := dR GCell.toD x.cells hkl
      have hget : x.cells[k]? = some x.cells[k] := List.getElem?_eq_getElem hkl
      have hvc := nG hval0 hkl
      have hvv := nD hvc
      have hwx := wfs_get hwl hkl
      have hwr := pO hvv
      have hwf := lS hwx hew hvv
      have hN : bg x.cells[k] e = ⟨x.cells[k].id, x.cells[k].ver + 1, x.cells[k].kind, x.cells[k].name, x.cells[k].code, x.cells[k].n⟩ := by simp [bg, he]
      cases tk : (x.cells[k].kind == 2) with
      | true =>
        have tkn : (x.cells[k].kind != 2) = false := by simp only [bne, tk]; rfl
        cases tv : (x.cells[k].ver == 999) with
        | true =>
          have vge : decide (x.cells[k].ver ≥ 999) = true := by simp at tv ⊢; omega
          have hcd : aV x.cells[k] e = 6 := by simp [aV, he, tk, tv]
          have hC : chg x.cells e = (x.cells, 6) := by simp [chg, he, hx, hget, hcd]
          rw [hC]
          repeat' (first | ((with_reducible refine hK _ ?_); clear hK K) | (with_reducible refine ak ?_ ?_) | ((with_reducible refine gi ?_); first | (refine aB ?_ ?_; rfl) | (refine aC ?_ ?_; (rfl; refine gF ?_))) | ((with_reducible refine gxi ?_); first | (refine aO ?_ ?_; rfl) | (refine aP ?_ ?_; (rfl; refine gxF ?_))) | ((with_reducible refine aU ?_); first | refine au (hc := hci) (h := ?_)) | ((with_reducible refine bG ?_); first | refine ay (hc := hci) (h := ?_)) | ((with_reducible refine aH ?_); refine ss (XR @GCell.el (XR k1 (XR k1n (XR k2 (XR k2n (XR k3 (XR k3n (XR k4 (XR k4n (XR k5 (XR k5n (XR k6 (XR k6n (XR g (XR hg (XR hkl (XR tk (XR tkn (XR tv (XR vge hwr)))))))))))))))))))) ?_) | ((with_reducible refine bJ ?_); refine sx (XR @GCell.el (XR k1 (XR k1n (XR k2 (XR k2n (XR k3 (XR k3n (XR k4 (XR k4n (XR k5 (XR k5n (XR k6 (XR k6n (XR g (XR hg (XR hkl (XR tk (XR tkn (XR tv (XR vge hwr)))))))))))))))))))) ?_) | refine nv ?_ | (refine rD ?_; intro K hK) | exact aZ | exact aI)
          exact aS ⟨⟨2, _, rfl, rfl, ⟨rfl, rfl⟩, trivial⟩, ⟨_, rfl, rfl, trivial⟩⟩
        | false =>
          have vge : decide (x.cells[k].ver ≥ 999) = false := by simp at tv ⊢; omega
          cases vN : bI (bg x.cells[k] e) with
          | true =>
            have hvN := vN
            rw [hN] at hvN hwf
            have hcd : aV x.cells[k] e = 0 := by simp [aV, he, vN, tk, tv]
            have hC : chg x.cells e = (x.cells.set k (bg x.cells[k] e), 0) := by simp [chg, he, hx, hget, hcd]
            rw [hC]
            repeat' (first | ((with_reducible refine hK _ ?_); clear hK K) | (with_reducible refine ak ?_ ?_) | ((with_reducible refine gi ?_); first | (refine aB ?_ ?_; rfl) | (refine aC ?_ ?_; (rfl; refine gF ?_))) | ((with_reducible refine gxi ?_); first | (refine aO ?_ ?_; rfl) | (refine aP ?_ ?_; (rfl; refine gxF ?_))) | ((with_reducible refine aU ?_); first | refine au (hc := hci) (h := ?_) | refine au (hc := (aX ⟨x.cells[k].id, x.cells[k].ver + 1, x.cells[k].kind, x.cells[k].name, x.cells[k].code, x.cells[k].n⟩ hwf)) (h := ?_) | (refine dP (mg x (by omega)) (GCell.el _) ?_ ?_)) | ((with_reducible refine bG ?_); first | refine ay (hc := hci) (h := ?_) | refine ay (hc := (aX ⟨x.cells[k].id, x.cells[k].ver + 1, x.cells[k].kind, x.cells[k].name, x.cells[k].code, x.cells[k].n⟩ hwf)) (h := ?_)) | ((with_reducible refine aH ?_); refine ss (XR @GCell.el (XR k1 (XR k1n (XR k2 (XR k2n (XR k3 (XR k3n (XR k4 (XR k4n (XR k5 (XR k5n (XR k6 (XR k6n (XR g (XR hg (XR hkl (XR tk (XR tkn (XR tv (XR vge (XR hvN hwr))))))))))))))))))))) ?_) | ((with_reducible refine bJ ?_); refine sx (XR @GCell.el (XR k1 (XR k1n (XR k2 (XR k2n (XR k3 (XR k3n (XR k4 (XR k4n (XR k5 (XR k5n (XR k6 (XR k6n (XR g (XR hg (XR hkl (XR tk (XR tkn (XR tv (XR vge (XR hvN hwr))))))))))))))))))))) ?_) | refine nv ?_ | (refine rD ?_; intro K hK) | exact aZ | exact aI)
            exact aS ⟨⟨2, _, rfl, rfl, ⟨_, rfl, rfl, by rw [← nK, hN]; rfl, Or.inr (GCell.dK _)⟩, trivial⟩, ⟨_, rfl, rfl, trivial⟩⟩
          | false =>
            have hvN := vN
            rw [hN] at hvN hwf
            have hcd : aV x.cells[k] e = 1 := by simp [aV, he, vN, tk, tv]
            have hC : chg x.cells e = (x.cells, 1) := by simp [chg, he, hx, hget, hcd]
            rw [hC]
            repeat' (first | ((with_reducible refine hK _ ?_); clear hK K) | (with_reducible refine ak ?_ ?_) | ((with_reducible refine gi ?_); first | (refine aB ?_ ?_; rfl) | (refine aC ?_ ?_; (rfl; refine gF ?_))) | ((with_reducible refine gxi ?_); first | (refine aO ?_ ?_; rfl) | (refine aP ?_ ?_; (rfl; refine gxF ?_))) | ((with_reducible refine aU ?_); first | refine au (hc := hci) (h := ?_) | refine au (hc := (aX ⟨x.cells[k].id, x.cells[k].ver + 1, x.cells[k].kind, x.cells[k].name, x.cells[k].code, x.cells[k].n⟩ hwf)) (h := ?_)) | ((with_reducible refine bG ?_); first | refine ay (hc := hci) (h := ?_) | refine ay (hc := (aX ⟨x.cells[k].id, x.cells[k].ver + 1, x.cells[k].kind, x.cells[k].name, x.cells[k].code, x.cells[k].n⟩ hwf)) (h := ?_)) | ((with_reducible refine aH ?_); refine ss (XR @GCell.el (XR k1 (XR k1n (XR k2 (XR k2n (XR k3 (XR k3n (XR k4 (XR k4n (XR k5 (XR k5n (XR k6 (XR k6n (XR g (XR hg (XR hkl (XR tk (XR tkn (XR tv (XR vge (XR hvN hwr))))))))))))))))))))) ?_) | ((with_reducible refine bJ ?_); refine sx (XR @GCell.el (XR k1 (XR k1n (XR k2 (XR k2n (XR k3 (XR k3n (XR k4 (XR k4n (XR k5 (XR k5n (XR k6 (XR k6n (XR g (XR hg (XR hkl (XR tk (XR tkn (XR tv (XR vge (XR hvN hwr))))))))))))))))))))) ?_) | refine nv ?_ | (refine rD ?_; intro K hK) | exact aZ | exact aI)
            exact aS ⟨⟨2, _, rfl, rfl, ⟨rfl, rfl⟩, trivial⟩, ⟨_, rfl, rfl, trivial⟩⟩
      | false =>
        have tkn : (x.cells[k].kind != 2) = true := by simp only [bne, tk]; rfl
        have hcd : aV x.cells[k] e = 5 := by simp [aV, he, tk]
        have hC : chg x.cells e = (x.cells, 5) := by simp [chg, he, hx, hget, hcd]
        rw [hC]
        repeat' (first | ((with_reducible refine hK _ ?_); clear hK K) | (with_reducible refine ak ?_ ?_) | ((with_reducible refine gi ?_); first | (refine aB ?_ ?_; rfl) | (refine aC ?_ ?_; (rfl; refine gF ?_))) | ((with_reducible refine gxi ?_); first | (refine aO ?_ ?_; rfl) | (refine aP ?_ ?_; (rfl; refine gxF ?_))) | ((with_reducible refine aU ?_); first | refine au (hc := hci) (h := ?_)) | ((with_reducible refine bG ?_); first | refine ay (hc := hci) (h := ?_)) | ((with_reducible refine aH ?_); refine ss (XR @GCell.el (XR k1 (XR k1n (XR k2 (XR k2n (XR k3 (XR k3n (XR k4 (XR k4n (XR k5 (XR k5n (XR k6 (XR k6n (XR g (XR hg (XR hkl (XR tk (XR tkn hwr)))))))))))))))))) ?_) | ((with_reducible refine bJ ?_); refine sx (XR @GCell.el (XR k1 (XR k1n (XR k2 (XR k2n (XR k3 (XR k3n (XR k4 (XR k4n (XR k5 (XR k5n (XR k6 (XR k6n (XR g (XR hg (XR hkl (XR tk (XR tkn hwr)))))))))))))))))) ?_) | refine nv ?_ | (refine rD ?_; intro K hK) | exact aZ | exact aI)
        exact aS ⟨⟨2, _, rfl, rfl, ⟨rfl, rfl⟩, trivial⟩, ⟨_, rfl, rfl, trivial⟩⟩
end Go.Proofs.Ytnongnchpplacaa

