/-
  Texts joined: Edit4.
-/
import Derived.Test.YtnongnchpplacaaJP
namespace Go.Proofs.Ytnongnchpplacaa
open Go.RowKit
set_option linter.unusedSimpArgs false
set_option linter.unusedVariables false
def app (l : List GCell) (e : GEdit) : List GCell × Int := if (dB l && inR e.kind 1 6) = true then chg l e else (l, 1)
theorem Ei (l : List GCell) (k : Nat) (c : GCell) : (l7 l k c).length ≤ l.length + 1 := by
  unfold l7
  simp
  omega
theorem Oy (l : List GCell) (e : GEdit) : (chg l e).1.length ≤ l.length + 1 := by
  unfold chg
  repeat' split
  all_goals first | (simp; done) | (simp only; exact Ei _ _ _) | (simp only; have := sJ l (bD l e.cell.id).toNat; omega) | (simp only; have := sJ l (bD l e.cell.id).toNat; have := Ei (gV l (bD l e.cell.id).toNat) (fP e.pos (gV l (bD l e.cell.id).toNat).length); exact Nat.le_trans (this _) (by omega))
theorem OD (l : List GCell) (e : GEdit) : (app l e).1.length ≤ l.length + 1 := by
  unfold app
  split
  · exact Oy l e
  · simp
def dI : IC := (.seq (.reg false [⟨(some 2), none, .box (.t 0)⟩, ⟨(some 3), none, .box (.t 1)⟩, ⟨(some 4), none, .alloc [(.slice none 0 0)]⟩, ⟨(some 5), none, .mov (.k (.int .i64 0))⟩]) (.seq (.reg false [⟨(some 10), none, .load 1 true (.t 2)⟩, ⟨(some 11), none, .call 38 [(.t 10)]⟩, ⟨(some 6), none, .alloc [(.slice none 0 0)]⟩, ⟨none, none, .store 1 (.t 6) (.t 11)⟩]) (.seq (.seq (.reg false [⟨(some 12), none, .load 1 true (.t 2)⟩, ⟨(some 13), none, .call 10 [(.t 12)]⟩, ⟨(some 14), none, .not (.t 13)⟩, ⟨(some 15), none, .mov (.t 14)⟩, ⟨(some 16), (some (15, false)), .fad 0 (.t 3)⟩, ⟨(some 17), (some (15, false)), .load 1 false (.t 16)⟩, ⟨(some 18), (some (15, false)), .call 44 [(.t 17), (.k (.int .i64 1)), (.k (.int .i64 6))]⟩, ⟨(some 19), (some (15, false)), .not (.t 18)⟩, ⟨(some 20), none, .pick (.t 15) (.k (.bool true)) (.t 19)⟩]) (.cond (.t 20) (.seq (.reg false [⟨(some 21), none, .load 1 true (.t 6)⟩, ⟨none, none, .store 1 (.t 4) (.t 21)⟩, ⟨(some 5), none, .mov (.k (.int .i64 1))⟩]) .ret) .skip)) (.seq (.reg false [⟨(some 22), none, .load 1 true (.t 2)⟩, ⟨(some 23), none, .fad 2 (.t 3)⟩, ⟨(some 24), none, .fad 0 (.t 23)⟩, ⟨(some 25), none, .load 1 false (.t 24)⟩, ⟨(some 26), none, .call 24 [(.t 22), (.t 25)]⟩, ⟨(some 7), none, .mov (.t 26)⟩]) (.seq (.seq (.reg false [⟨(some 27), none, .fad 0 (.t 3)⟩, ⟨(some 28), none, .load 1 false (.t 27)⟩, ⟨(some 29), none, .bin .eql (.t 28) (.k (.int .i64 1))⟩]) (.cond (.t 29) (.seq (.block 0 (.seq (.reg false [⟨(some 31), none, .fad 2 (.t 3)⟩, ⟨(some 32), none, .load 6 true (.t 31)⟩, ⟨(some 33), none, .call 32 [(.t 32)]⟩, ⟨(some 34), none, .not (.t 33)⟩, ⟨(some 30), none, .mov (.t 34)⟩]) (.cond (.t 30) (.seq (.reg false [⟨(some 35), none, .load 1 true (.t 6)⟩, ⟨none, none, .store 1 (.t 4) (.t 35)⟩, ⟨(some 5), none, .mov (.k (.int .i64 1))⟩]) .ret) (.seq (.reg false [⟨(some 37), none, .mov (.t 7)⟩, ⟨(some 38), none, .bin .geq (.t 37) (.k (.int .i64 0))⟩, ⟨(some 36), none, .mov (.t 38)⟩]) (.cond (.t 36) (.seq (.reg false [⟨(some 39), none, .load 1 true (.t 6)⟩, ⟨none, none, .store 1 (.t 4) (.t 39)⟩, ⟨(some 5), none, .mov (.k (.int .i64 3))⟩]) .ret) (.seq (.reg false [⟨(some 41), none, .fad 0 (.t 2)⟩, ⟨(some 42), none, .load 1 false (.t 41)⟩, ⟨(some 43), none, .len false (.t 42)⟩, ⟨(some 44), none, .bin .eql (.t 43) (.k (.int .i64 8))⟩, ⟨(some 40), none, .mov (.t 44)⟩]) (.cond (.t 40) (.seq (.reg false [⟨(some 45), none, .load 1 true (.t 6)⟩, ⟨none, none, .store 1 (.t 4) (.t 45)⟩, ⟨(some 5), none, .mov (.k (.int .i64 4))⟩]) .ret) .skip))))))) (.seq (.reg false [⟨(some 46), none, .fad 0 (.t 2)⟩, ⟨(some 47), none, .load 1 false (.t 46)⟩, ⟨(some 48), none, .fad 1 (.t 3)⟩, ⟨(some 49), none, .load 1 false (.t 48)⟩, ⟨(some 50), none, .fad 2 (.t 3)⟩, ⟨(some 51), none, .load 6 true (.t 50)⟩, ⟨(some 52), none, .call 45 [(.t 47), (.t 49), (.t 51)]⟩, ⟨(some 53), none, .bld [(.slice none 0 0)] [(0, 1, (.t 52))]⟩, ⟨none, none, .store 1 (.t 4) (.t 53)⟩, ⟨(some 5), none, .mov (.k (.int .i64 0))⟩]) .ret)) .skip)) (.seq (.seq (.reg false [⟨(some 54), none, .mov (.t 7)⟩, ⟨(some 55), none, .bin .lss (.t 54) (.k (.int .i64 0))⟩]) (.cond (.t 55) (.seq (.reg false [⟨(some 56), none, .load 1 true (.t 6)⟩, ⟨none, none, .store 1 (.t 4) (.t 56)⟩, ⟨(some 5), none, .mov (.k (.int .i64 2))⟩]) .ret) .skip)) (.seq (.seq (.reg false [⟨(some 57), none, .fad 0 (.t 3)⟩, ⟨(some 58), none, .load 1 false (.t 57)⟩]) (.block 1 (.seq (.reg false [⟨(some 60), none, .bin .eql (.t 58) (.k (.int .i64 2))⟩, ⟨(some 59), none, .mov (.t 60)⟩]) (.cond (.t 59) (.seq (.reg false [⟨(some 61), none, .fad 0 (.t 2)⟩, ⟨(some 62), none, .load 1 false (.t 61)⟩, ⟨(some 63), none, .mov (.t 7)⟩, ⟨(some 64), none, .call 46 [(.t 62), (.t 63)]⟩, ⟨(some 65), none, .bld [(.slice none 0 0)] [(0, 1, (.t 64))]⟩, ⟨none, none, .store 1 (.t 4) (.t 65)⟩, ⟨(some 5), none, .mov (.k (.int .i64 0))⟩]) .ret) (.seq (.reg false [⟨(some 67), none, .bin .eql (.t 58) (.k (.int .i64 3))⟩, ⟨(some 66), none, .mov (.t 67)⟩]) (.cond (.t 66) (.seq (.regN true [] [⟨(some 68), none, .fad 0 (.t 2)⟩, ⟨(some 69), none, .load 1 false (.t 68)⟩, ⟨(some 70), none, .mov (.t 7)⟩, ⟨(some 71), none, .call 46 [(.t 69), (.t 70)]⟩, ⟨(some 72), none, .fad 1 (.t 3)⟩, ⟨(some 73), none, .load 1 false (.t 72)⟩, ⟨(some 74), none, .fad 0 (.t 2)⟩, ⟨(some 75), none, .load 1 false (.t 74)⟩, ⟨(some 76), none, .mov (.t 7)⟩, ⟨(some 77), none, .iad 6 (.t 75) (.t 76)⟩, ⟨(some 78), none, .load 6 true (.t 77)⟩, ⟨(some 79), none, .call 45 [(.t 71), (.t 73), (.t 78)]⟩, ⟨(some 80), none, .bld [(.slice none 0 0)] [(0, 1, (.t 79))]⟩, ⟨none, none, .store 1 (.t 4) (.t 80)⟩, ⟨(some 5), none, .mov (.k (.int .i64 0))⟩]) .ret) .skip)))))) (.seq (.reg true [⟨(some 82), none, .fad 0 (.t 2)⟩, ⟨(some 83), none, .load 1 false (.t 82)⟩, ⟨(some 84), none, .mov (.t 7)⟩, ⟨(some 85), none, .iad 6 (.t 83) (.t 84)⟩, ⟨(some 86), none, .load 6 true (.t 85)⟩, ⟨(some 87), none, .load 8 true (.t 3)⟩, ⟨(some 88), none, .call 47 [(.t 86), (.t 87)]⟩, ⟨(some 81), none, .mov (.t 88)⟩, ⟨(some 89), none, .ext 0 (.t 81)⟩, ⟨(some 90), none, .ext 1 (.t 81)⟩, ⟨(some 8), none, .alloc [(.int .i64 0), (.int .i64 0), (.int .i64 0), (.string ⟨#[]⟩), (.string ⟨#[]⟩), (.int .i64 0)]⟩, ⟨none, none, .store 6 (.t 8) (.t 89)⟩, ⟨(some 9), none, .mov (.t 90)⟩]) (.seq (.seq (.reg false [⟨(some 91), none, .mov (.t 9)⟩, ⟨(some 92), none, .bin .eql (.t 91) (.k (.int .i64 0))⟩]) (.cond (.t 92) (.reg false [⟨(some 93), none, .fad 0 (.t 6)⟩, ⟨(some 94), none, .load 1 false (.t 93)⟩, ⟨(some 95), none, .mov (.t 7)⟩, ⟨(some 96), none, .load 6 true (.t 8)⟩, ⟨(some 97), none, .iad 6 (.t 94) (.t 95)⟩, ⟨none, none, .store 6 (.t 97) (.t 96)⟩]) .skip)) (.seq (.reg false [⟨(some 98), none, .load 1 true (.t 6)⟩, ⟨(some 99), none, .mov (.t 9)⟩, ⟨none, none, .store 1 (.t 4) (.t 98)⟩, ⟨(some 5), none, .mov (.t 99)⟩]) .ret))))))))))
theorem yQ : aF Try.prog (Try.f23.body.getD .skip) = some dI := by kernel_rfl
set_option maxHeartbeats 40000000 in
theorem D9 (x : GNb) (e : GEdit) (hn : x.cells.length ≤ 1048576) (hwl : D.wfs (x.cells.map GCell.toD)) (hew : e.toD.wf) (hval0 : dB x.cells = true) (hin : inR e.kind 1 6 = true) (hk0 : e.kind = 1) : AWP Try.prog dI (kH fun st => sW (.cell 4 26) true [.sl true ((app x.cells e).1.map GCell.toD)] st ∧ sW (.tmp 5) false [.raw (.int .i64 (app x.cells e).2)] st) (st0 100 [x.toD, e.toD]) := by
  have hlen := kJ hval0
  have hwc : e.cell.toD.wf := hew.2.2.1
  have hA : app x.cells e = chg x.cells e := by simp [app, hval0, hin]
  rw [hA]
  unfold dI
  refine sS trivial ?_
  · -- kind 1
    have he : e.kind = 1 := hk0
    have k1 : (e.kind == 1) = true := by rw [he]; rfl
    have k1n : (e.kind != 1) = false := by rw [he]; rfl
    have k2 : (e.kind == 2) = false := by rw [he]; rfl
    have k2n : (e.kind != 2) = true := by rw [he]; rfl
    have k3 : (e.kind == 3) = false := by rw [he]; rfl
    have k3n : (e.kind != 3) = true := by rw [he]; rfl
    have k4 : (e.kind == 4) = false := by rw [he]; rfl
    have k4n : (e.kind != 4) = true := by rw [he]; rfl
    have k5 : (e.kind == 5) = false := by rw [he]; rfl
    have k5n : (e.kind != 5) = true := by rw [he]; rfl
    have k6 : (e.kind == 6) = false := by rw [he]; rfl
    have k6n : (e.kind != 6) = true := by rw [he]; rfl
    cases v1 : bI e.cell with
    | false =>
      rcases dG x.cells e.cell.id with hx | ⟨k, hkl, hx⟩
      · have hci : aK _ _ _ _ := hx ▸ cZ x e.cell.id
        have hC : chg x.cells e = (x.cells, 1) := by simp [chg, he, v1]
        rw [hC]
        repeat' (first | ((with_reducible refine hK _ ?_); clear hK K) | (with_reducible refine ak ?_ ?_) | ((with_reducible refine gi ?_); first | (refine aB ?_ ?_; rfl) | (refine aC ?_ ?_; (rfl; refine gF ?_))) | ((with_reducible refine gxi ?_); first | (refine aO ?_ ?_; rfl) | (refine aP ?_ ?_; (rfl; refine gxF ?_))) | ((with_reducible refine aU ?_); first | refine au (hc := (aA x hwl)) (h := ?_) | refine au (hc := (bM e.kind 1 6)) (h := ?_) | (refine dP (cu x (by omega)) (GCell.el _) ?_ ?_) | refine au (hc := hci) (h := ?_) | refine au (hc := (aW e.cell hwc)) (h := ?_)) | ((with_reducible refine bG ?_); first | refine ay (hc := (aA x hwl)) (h := ?_) | refine ay (hc := (bM e.kind 1 6)) (h := ?_) | refine ay (hc := hci) (h := ?_) | refine ay (hc := (aW e.cell hwc)) (h := ?_)) | ((with_reducible refine aH ?_); refine ss (XR @GCell.el (XR k1 (XR k1n (XR k2 (XR k2n (XR k3 (XR k3n (XR k4 (XR k4n (XR k5 (XR k5n (XR k6 (XR k6n (XR hin (XR hval0 v1))))))))))))))) ?_) | ((with_reducible refine bJ ?_); refine sx (XR @GCell.el (XR k1 (XR k1n (XR k2 (XR k2n (XR k3 (XR k3n (XR k4 (XR k4n (XR k5 (XR k5n (XR k6 (XR k6n (XR hin (XR hval0 v1))))))))))))))) ?_) | refine nv ?_ | (refine rD ?_; intro K hK) | exact aZ | exact aI)
        exact aS ⟨⟨2, _, rfl, rfl, ⟨_, rfl, rfl, rfl, Or.inr (GCell.dK _)⟩, trivial⟩, ⟨_, rfl, rfl, trivial⟩⟩
      · have hci : aK _ _ _ _ := hx ▸ cZ x e.cell.id
        have hC : chg x.cells e = (x.cells, 1) := by simp [chg, he, v1]
        rw [hC]
        repeat' (first | ((with_reducible refine hK _ ?_); clear hK K) | (with_reducible refine ak ?_ ?_) | ((with_reducible refine gi ?_); first | (refine aB ?_ ?_; rfl) | (refine aC ?_ ?_; (rfl; refine gF ?_))) | ((with_reducible refine gxi ?_); first | (refine aO ?_ ?_; rfl) | (refine aP ?_ ?_; (rfl; refine gxF ?_))) | ((with_reducible refine aU ?_); first | refine au (hc := (aA x hwl)) (h := ?_) | refine au (hc := (bM e.kind 1 6)) (h := ?_) | (refine dP (cu x (by omega)) (GCell.el _) ?_ ?_) | refine au (hc := hci) (h := ?_) | refine au (hc := (aW e.cell hwc)) (h := ?_)) | ((with_reducible refine bG ?_); first | refine ay (hc := (aA x hwl)) (h := ?_) | refine ay (hc := (bM e.kind 1 6)) (h := ?_) | refine ay (hc := hci) (h := ?_) | refine ay (hc := (aW e.cell hwc)) (h := ?_)) | ((with_reducible refine aH ?_); refine ss (XR @GCell.el (XR k1 (XR k1n (XR k2 (XR k2n (XR k3 (XR k3n (XR k4 (XR k4n (XR k5 (XR k5n (XR k6 (XR k6n (XR hin (XR hval0 v1))))))))))))))) ?_) | ((with_reducible refine bJ ?_); refine sx (XR @GCell.el (XR k1 (XR k1n (XR k2 (XR k2n (XR k3 (XR k3n (XR k4 (XR k4n (XR k5 (XR k5n (XR k6 (XR k6n (XR hin (XR hval0 v1))))))))))))))) ?_) | refine nv ?_ | (refine rD ?_; intro K hK) | exact aZ | exact aI)
        exact aS ⟨⟨2, _, rfl, rfl, ⟨_, rfl, rfl, rfl, Or.inr (GCell.dK _)⟩, trivial⟩, ⟨_, rfl, rfl, trivial⟩⟩
    | true =>
      rcases dG x.cells e.cell.id with hx | ⟨k, hkl, hx⟩
      · have hci : aK _ _ _ _ := hx ▸ cZ x e.cell.id
        have g : decide ((-1 : Int) ≥ 0) = false := by decide
        by_cases hl : 8 ≤ x.cells.length
        · have gl : ((x.cells.length : Int) == 8) = true := by simp; omega
          have hC : chg x.cells e = (x.cells, 4) := by simp [chg, he, v1, hx, hl]
          rw [hC]
          repeat' (first | ((with_reducible refine hK _ ?_); clear hK K) | (with_reducible refine ak ?_ ?_) | ((with_reducible refine gi ?_); first | (refine aB ?_ ?_; rfl) | (refine aC ?_ ?_; (rfl; refine gF ?_))) | ((with_reducible refine gxi ?_); first | (refine aO ?_ ?_; rfl) | (refine aP ?_ ?_; (rfl; refine gxF ?_))) | ((with_reducible refine aU ?_); first | refine au (hc := (aA x hwl)) (h := ?_) | refine au (hc := (bM e.kind 1 6)) (h := ?_) | (refine dP (cu x (by omega)) (GCell.el _) ?_ ?_) | refine au (hc := hci) (h := ?_) | refine au (hc := (aW e.cell hwc)) (h := ?_)) | ((with_reducible refine bG ?_); first | refine ay (hc := (aA x hwl)) (h := ?_) | refine ay (hc := (bM e.kind 1 6)) (h := ?_) | refine ay (hc := hci) (h := ?_) | refine ay (hc := (aW e.cell hwc)) (h := ?_)) | ((with_reducible refine aH ?_); refine ss (XR @GCell.el (XR k1 (XR k1n (XR k2 (XR k2n (XR k3 (XR k3n (XR k4 (XR k4n (XR k5 (XR k5n (XR k6 (XR k6n (XR hin (XR hval0 (XR v1 (XR g gl))))))))))))))))) ?_) | ((with_reducible refine bJ ?_); refine sx (XR @GCell.el (XR k1 (XR k1n (XR k2 (XR k2n (XR k3 (XR k3n (XR k4 (XR k4n (XR k5 (XR k5n (XR k6 (XR k6n (XR hin (XR hval0 (XR v1 (XR g gl))))))))))))))))) ?_) | refine nv ?_ | (refine rD ?_; intro K hK) | exact aZ | exact aI)
          exact aS ⟨⟨2, _, rfl, rfl, ⟨_, rfl, rfl, rfl, Or.inr (GCell.dK _)⟩, trivial⟩, ⟨_, rfl, rfl, trivial⟩⟩
        · have gl : ((x.cells.length : Int) == 8) = false := by simp; omega
          have hC : chg x.cells e = (l7 x.cells (fP e.pos x.cells.length) e.cell, 0) := by simp [chg, he, v1, hx, hl]
          rw [hC]
          repeat' (first | ((with_reducible refine hK _ ?_); clear hK K) | (with_reducible refine ak ?_ ?_) | ((with_reducible refine gi ?_); first | (refine aB ?_ ?_; rfl) | (refine aC ?_ ?_; (rfl; refine gF ?_))) | ((with_reducible refine gxi ?_); first | (refine aO ?_ ?_; rfl) | (refine aP ?_ ?_; (rfl; refine gxF ?_))) | ((with_reducible refine aU ?_); first | refine au (hc := (aA x hwl)) (h := ?_) | refine au (hc := (bM e.kind 1 6)) (h := ?_) | (refine dP (cu x (by omega)) (GCell.el _) ?_ ?_) | refine au (hc := hci) (h := ?_) | refine au (hc := (aW e.cell hwc)) (h := ?_) | refine au (hc := (mW x.cells e.pos e.cell (by omega))) (h := ?_)) | ((with_reducible refine bG ?_); first | refine ay (hc := (aA x hwl)) (h := ?_) | refine ay (hc := (bM e.kind 1 6)) (h := ?_) | refine ay (hc := hci) (h := ?_) | refine ay (hc := (aW e.cell hwc)) (h := ?_) | refine ay (hc := (mW x.cells e.pos e.cell (by omega))) (h := ?_)) | ((with_reducible refine aH ?_); refine ss (XR @GCell.el (XR k1 (XR k1n (XR k2 (XR k2n (XR k3 (XR k3n (XR k4 (XR k4n (XR k5 (XR k5n (XR k6 (XR k6n (XR hin (XR hval0 (XR v1 (XR g gl))))))))))))))))) ?_) | ((with_reducible refine bJ ?_); refine sx (XR @GCell.el (XR k1 (XR k1n (XR k2 (XR k2n (XR k3 (XR k3n (XR k4 (XR k4n (XR k5 (XR k5n (XR k6 (XR k6n (XR hin (XR hval0 (XR v1 (XR g gl))))))))))))))))) ?_) | refine nv ?_ | (refine rD ?_; intro K hK) | exact aZ | exact aI)
          exact aS ⟨⟨2, _, rfl, rfl, ⟨rfl, rfl⟩, trivial⟩, ⟨_, rfl, rfl, trivial⟩⟩
      · have hci : aK _ _ _ _ := hx ▸ cZ x e.cell.id
        have g : decide ((k : Int) ≥ 0) = true := by simp
        have hC : chg x.cells e = (x.cells, 3) := by simp [chg, he, v1, hx]
        rw [hC]
        repeat' (first | ((with_reducible refine hK _ ?_); clear hK K) | (with_reducible refine ak ?_ ?_) | ((with_reducible refine gi ?_); first | (refine aB ?_ ?_; rfl) | (refine aC ?_ ?_; (rfl; refine gF ?_))) | ((with_reducible refine gxi ?_); first | (refine aO ?_ ?_; rfl) | (refine aP ?_ ?_; (rfl; refine gxF ?_))) | ((with_reducible refine aU ?_); first | refine au (hc := (aA x hwl)) (h := ?_) | refine au (hc := (bM e.kind 1 6)) (h := ?_) | (refine dP (cu x (by omega)) (GCell.el _) ?_ ?_) | refine au (hc := hci) (h := ?_) | refine au (hc := (aW e.cell hwc)) (h := ?_)) | ((with_reducible refine bG ?_); first | refine ay (hc := (aA x hwl)) (h := ?_) | refine ay (hc := (bM e.kind 1 6)) (h := ?_) | refine ay (hc := hci) (h := ?_) | refine ay (hc := (aW e.cell hwc)) (h := ?_)) | ((with_reducible refine aH ?_); refine ss (XR @GCell.el (XR k1 (XR k1n (XR k2 (XR k2n (XR k3 (XR k3n (XR k4 (XR k4n (XR k5 (XR k5n (XR k6 (XR k6n (XR hin (XR hval0 (XR v1 g)))))))))))))))) ?_) | ((with_reducible refine bJ ?_); refine sx (XR @GCell.el (XR k1 (XR k1n (XR k2 (XR k2n (XR k3 (XR k3n (XR k4 (XR k4n (XR k5 (XR k5n (XR k6 (XR k6n (XR hin (XR hval0 (XR v1 g)))))))))))))))) ?_) | refine nv ?_ | (refine rD ?_; intro K hK) | exact aZ | exact aI)
        exact aS ⟨⟨2, _, rfl, rfl, ⟨_, rfl, rfl, rfl, Or.inr (GCell.dK _)⟩, trivial⟩, ⟨_, rfl, rfl, trivial⟩⟩
set_option maxHeartbeats 40000000 in
theorem D8 (x : GNb) (e : GEdit) (hn : x.cells.length ≤ 1048576) (hwl : D.wfs (x.cells.map GCell.toD)) (hew : e.toD.wf) (hval0 : dB x.cells = true) (hin : inR e.kind 1 6 = true) (hk0 : e.kind = 2) : AWP Try.prog dI (kH fun st => sW (.cell 4 26) true [.sl true ((app x.cells e).1.map GCell.toD)] st ∧ sW (.tmp 5) false [.raw (.int .i64 (app x.cells e).2)] st) (st0 100 [x.toD, e.toD]) := by
  have hlen := kJ hval0
  have hwc : e.cell.toD.wf := hew.2.2.1
  have hA : app x.cells e = chg x.cells e := by simp [app, hval0, hin]
  rw [hA]
  unfold dI
  refine sS trivial ?_
  · -- kind 2
    have he : e.kind = 2 := hk0
    have k1 : (e.kind == 1) = false := by rw [he]; rfl
    have k1n : (e.kind != 1) = true := by rw [he]; rfl
    have k2 : (e.kind == 2) = true := by rw [he]; rfl
    have k2n : (e.kind != 2) = false := by rw [he]; rfl
    have k3 : (e.kind == 3) = false := by rw [he]; rfl
    have k3n : (e.kind != 3) = true := by rw [he]; rfl
    have k4 : (e.kind == 4) = false := by rw [he]; rfl
    have k4n : (e.kind != 4) = true := by rw [he]; rfl
    have k5 : (e.kind == 5) = false := by rw [he]; rfl
    have k5n : (e.kind != 5) = true := by rw [he]; rfl
    have k6 : (e.kind == 6) = false := by rw [he]; rfl
    have k6n : (e.kind != 6) = true := by rw [he]; rfl
    rcases dG x.cells e.cell.id with hx | ⟨k, hkl, hx⟩
    · have hci : aK _ _ _ _ := hx ▸ cZ x e.cell.id
      have g : decide ((-1 : Int) < 0) = true := by decide
      have hC : chg x.cells e = (x.cells, 2) := by simp [chg, he, hx]
      rw [hC]
      repeat' (first | ((with_reducible refine hK _ ?_); clear hK K) | (with_reducible refine ak ?_ ?_) | ((with_reducible refine gi ?_); first | (refine aB ?_ ?_; rfl) | (refine aC ?_ ?_; (rfl; refine gF ?_))) | ((with_reducible refine gxi ?_); first | (refine aO ?_ ?_; rfl) | (refine aP ?_ ?_; (rfl; refine gxF ?_))) | ((with_reducible refine aU ?_); first | refine au (hc := (aA x hwl)) (h := ?_) | refine au (hc := (bM e.kind 1 6)) (h := ?_) | (refine dP (cu x (by omega)) (GCell.el _) ?_ ?_) | refine au (hc := hci) (h := ?_)) | ((with_reducible refine bG ?_); first | refine ay (hc := (aA x hwl)) (h := ?_) | refine ay (hc := (bM e.kind 1 6)) (h := ?_) | refine ay (hc := hci) (h := ?_)) | ((with_reducible refine aH ?_); refine ss (XR @GCell.el (XR k1 (XR k1n (XR k2 (XR k2n (XR k3 (XR k3n (XR k4 (XR k4n (XR k5 (XR k5n (XR k6 (XR k6n (XR hin (XR hval0 g))))))))))))))) ?_) | ((with_reducible refine bJ ?_); refine sx (XR @GCell.el (XR k1 (XR k1n (XR k2 (XR k2n (XR k3 (XR k3n (XR k4 (XR k4n (XR k5 (XR k5n (XR k6 (XR k6n (XR hin (XR hval0 g))))))))))))))) ?_) | refine nv ?_ | (refine rD ?_; intro K hK) | exact aZ | exact aI)
      exact aS ⟨⟨2, _, rfl, rfl, ⟨_, rfl, rfl, rfl, Or.inr (GCell.dK _)⟩, trivial⟩, ⟨_, rfl, rfl, trivial⟩⟩
    · have hci : aK _ _ _ _ := hx ▸ cZ x e.cell.id
      have g : decide ((k : Int) < 0) = false := by simp
      have hg := dR GCell.toD x.cells hkl
      have hget : x.cells[k]? = some x.cells[k] := List.getElem?_eq_getElem hkl
      have hC : chg x.cells e = (gV x.cells k, 0) := by simp [chg, he, hx, hget]
      rw [hC]
      repeat' (first | ((with_reducible refine hK _ ?_); clear hK K) | (with_reducible refine ak ?_ ?_) | ((with_reducible refine gi ?_); first | (refine aB ?_ ?_; rfl) | (refine aC ?_ ?_; (rfl; refine gF ?_))) | ((with_reducible refine gxi ?_); first | (refine aO ?_ ?_; rfl) | (refine aP ?_ ?_; (rfl; refine gxF ?_))) | ((with_reducible refine aU ?_); first | refine au (hc := (aA x hwl)) (h := ?_) | refine au (hc := (bM e.kind 1 6)) (h := ?_) | (refine dP (cu x (by omega)) (GCell.el _) ?_ ?_) | refine au (hc := hci) (h := ?_) | refine au (hc := (lF x.cells k hkl (by omega))) (h := ?_)) | ((with_reducible refine bG ?_); first | refine ay (hc := (aA x hwl)) (h := ?_) | refine ay (hc := (bM e.kind 1 6)) (h := ?_) | refine ay (hc := hci) (h := ?_) | refine ay (hc := (lF x.cells k hkl (by omega))) (h := ?_)) | ((with_reducible refine aH ?_); refine ss (XR @GCell.el (XR k1 (XR k1n (XR k2 (XR k2n (XR k3 (XR k3n (XR k4 (XR k4n (XR k5 (XR k5n (XR k6 (XR k6n (XR hin (XR hval0 (XR g (XR hg hkl))))))))))))))))) ?_) | ((with_reducible refine bJ ?_); refine sx (XR @GCell.el (XR k1 (XR k1n (XR k2 (XR k2n (XR k3 (XR k3n (XR k4 (XR k4n (XR k5 (XR k5n (XR k6 (XR k6n (XR hin (XR hval0 (XR g (XR hg hkl))))))))))))))))) ?_) | refine nv ?_ | (refine rD ?_; intro K hK) | exact aZ | exact aI)
      exact aS ⟨⟨2, _, rfl, rfl, ⟨rfl, rfl⟩, trivial⟩, ⟨_, rfl, rfl, trivial⟩⟩
set_option maxHeartbeats 40000000 in
theorem D7 (x : GNb) (e : GEdit) (hn : x.cells.length ≤ 1048576) (hwl : D.wfs (x.cells.map GCell.toD)) (hew : e.toD.wf) (hval0 : dB x.cells = true) (hin : inR e.kind 1 6 = true) (hk0 : e.kind = 3) : AWP Try.prog dI (kH fun st => sW (.cell 4 26) true [.sl true ((app x.cells e).1.map GCell.toD)] st ∧ sW (.tmp 5) false [.raw (.int .i64 (app x.cells e).2)] st) (st0 100 [x.toD, e.toD]) := by
  have hlen := kJ hval0
  have hwc : e.cell.toD.wf := hew.2.2.1
  have hA : app x.cells e = chg x.cells e := by simp [app, hval0, hin]
  rw [hA]
  unfold dI
  refine sS trivial ?_
  · -- kind 3
    have he : e.kind = 3 := hk0
    have k1 : (e.kind == 1) = false := by rw [he]; rfl
    have k1n : (e.kind != 1) = true := by rw [he]; rfl
    have k2 : (e.kind == 2) = false := by rw [he]; rfl
    have k2n : (e.kind != 2) = true := by rw [he]; rfl
    have k3 : (e.kind == 3) = true := by rw [he]; rfl
    have k3n : (e.kind != 3) = false := by rw [he]; rfl
    have k4 : (e.kind == 4) = false := by rw [he]; rfl
    have k4n : (e.kind != 4) = true := by rw [he]; rfl
    have k5 : (e.kind == 5) = false := by rw [he]; rfl
    have k5n : (e.kind != 5) = true := by rw [he]; rfl
    have k6 : (e.kind == 6) = false := by rw [he]; rfl
    have k6n : (e.kind != 6) = true := by rw [he]; rfl
    rcases dG x.cells e.cell.id with hx | ⟨k, hkl, hx⟩
    · have hci : aK _ _ _ _ := hx ▸ cZ x e.cell.id
      have g : decide ((-1 : Int) < 0) = true := by decide
      have hC : chg x.cells e = (x.cells, 2) := by simp [chg, he, hx]
      rw [hC]
      repeat' (first | ((with_reducible refine hK _ ?_); clear hK K) | (with_reducible refine ak ?_ ?_) | ((with_reducible refine gi ?_); first | (refine aB ?_ ?_; rfl) | (refine aC ?_ ?_; (rfl; refine gF ?_))) | ((with_reducible refine gxi ?_); first | (refine aO ?_ ?_; rfl) | (refine aP ?_ ?_; (rfl; refine gxF ?_))) | ((with_reducible refine aU ?_); first | refine au (hc := (aA x hwl)) (h := ?_) | refine au (hc := (bM e.kind 1 6)) (h := ?_) | (refine dP (cu x (by omega)) (GCell.el _) ?_ ?_) | refine au (hc := hci) (h := ?_)) | ((with_reducible refine bG ?_); first | refine ay (hc := (aA x hwl)) (h := ?_) | refine ay (hc := (bM e.kind 1 6)) (h := ?_) | refine ay (hc := hci) (h := ?_)) | ((with_reducible refine aH ?_); refine ss (XR @GCell.el (XR k1 (XR k1n (XR k2 (XR k2n (XR k3 (XR k3n (XR k4 (XR k4n (XR k5 (XR k5n (XR k6 (XR k6n (XR hin (XR hval0 g))))))))))))))) ?_) | ((with_reducible refine bJ ?_); refine sx (XR @GCell.el (XR k1 (XR k1n (XR k2 (XR k2n (XR k3 (XR k3n (XR k4 (XR k4n (XR k5 (XR k5n (XR k6 (XR k6n (XR hin (XR hval0 g))))))))))))))) ?_) | refine nv ?_ | (refine rD ?_; intro K hK) | exact aZ | exact aI)
      exact aS ⟨⟨2, _, rfl, rfl, ⟨_, rfl, rfl, rfl, Or.inr (GCell.dK _)⟩, trivial⟩, ⟨_, rfl, rfl, trivial⟩⟩
    · have hci : aK _ _ _ _ := hx ▸ cZ x e.cell.id
      have g : decide ((k : Int) < 0) = false := by simp
      have hg := dR GCell.toD x.cells hkl
      have hget : x.cells[k]? = some x.cells[k] := List.getElem?_eq_getElem hkl
      have hdl := sJ x.cells k
      have hC : chg x.cells e = (l7 (gV x.cells k) (fP e.pos (gV x.cells k).length) x.cells[k], 0) := by simp [chg, he, hx, hget]
      rw [hC]
      repeat' (first | ((with_reducible refine hK _ ?_); clear hK K) | (with_reducible refine ak ?_ ?_) | ((with_reducible refine gi ?_); first | (refine aB ?_ ?_; rfl) | (refine aC ?_ ?_; (rfl; refine gF ?_))) | ((with_reducible refine gxi ?_); first | (refine aO ?_ ?_; rfl) | (refine aP ?_ ?_; (rfl; refine gxF ?_))) | ((with_reducible refine aU ?_); first | refine au (hc := (aA x hwl)) (h := ?_) | refine au (hc := (bM e.kind 1 6)) (h := ?_) | (refine dP (cu x (by omega)) (GCell.el _) ?_ ?_) | refine au (hc := hci) (h := ?_) | refine au (hc := (lF x.cells k hkl (by omega))) (h := ?_) | refine au (hc := (mW (gV x.cells k) e.pos x.cells[k] (by omega))) (h := ?_)) | ((with_reducible refine bG ?_); first | refine ay (hc := (aA x hwl)) (h := ?_) | refine ay (hc := (bM e.kind 1 6)) (h := ?_) | refine ay (hc := hci) (h := ?_) | refine ay (hc := (lF x.cells k hkl (by omega))) (h := ?_) | refine ay (hc := (mW (gV x.cells k) e.pos x.cells[k] (by omega))) (h := ?_)) | ((with_reducible refine aH ?_); refine ss (XR @GCell.el (XR k1 (XR k1n (XR k2 (XR k2n (XR k3 (XR k3n (XR k4 (XR k4n (XR k5 (XR k5n (XR k6 (XR k6n (XR hin (XR hval0 (XR g (XR hg hkl))))))))))))))))) ?_) | ((with_reducible refine bJ ?_); refine sx (XR @GCell.el (XR k1 (XR k1n (XR k2 (XR k2n (XR k3 (XR k3n (XR k4 (XR k4n (XR k5 (XR k5n (XR k6 (XR k6n (XR hin (XR hval0 (XR g (XR hg hkl))))))))))))))))) ?_) | refine nv ?_ | (refine rD ?_; intro K hK) | exact aZ | exact aI)
      exact aS ⟨⟨2, _, rfl, rfl, ⟨rfl, rfl⟩, trivial⟩, ⟨_, rfl, rfl, trivial⟩⟩
set_option maxHeartbeats 40000000 in
theorem D6 (x : GNb) (e : GEdit) (hn : x.cells.length ≤ 1048576) (hwl : D.wfs (x.cells.map GCell.toD)) (hew : e.toD.wf) (hval0 : dB x.cells = true) (hin : inR e.kind 1 6 = true) (hk0 : e.kind = 4) : AWP Try.prog dI (kH fun st => sW (.cell 4 26) true [.sl true ((app x.cells e).1.map GCell.toD)] st ∧ sW (.tmp 5) false [.raw (.int .i64 (app x.cells e).2)] st) (st0 100 [x.toD, e.toD]) := by
  have hlen := kJ hval0
  have hwc : e.cell.toD.wf := hew.2.2.1
  have hA : app x.cells e = chg x.cells e := by simp [app, hval0, hin]
  rw [hA]
  unfold dI
  refine sS trivial ?_
  · -- kind 4
    have he : e.kind = 4 := hk0
    have k1 : (e.kind == 1) = false := by rw [he]; rfl
    have k1n : (e.kind != 1) = true := by rw [he]; rfl
    have k2 : (e.kind == 2) = false := by rw [he]; rfl
    have k2n : (e.kind != 2) = true := by rw [he]; rfl
    have k3 : (e.kind == 3) = false := by rw [he]; rfl
    have k3n : (e.kind != 3) = true := by rw [he]; rfl
    have k4 : (e.kind == 4) = true := by rw [he]; rfl
    have k4n : (e.kind != 4) = false := by rw [he]; rfl
    have k5 : (e.kind == 5) = false := by rw [he]; rfl
    have k5n : (e.kind != 5) = true := by rw [he]; rfl
    have k6 : (e.kind == 6) = false := by rw [he]; rfl
    have k6n : (e.kind != 6) = true := by rw [he]; rfl
    rcases dG x.cells e.cell.id with hx | ⟨k, hkl, hx⟩
    · have hci : aK _ _ _ _ := hx ▸ cZ x e.cell.id
      have g : decide ((-1 : Int) < 0) = true := by decide
      have hC : chg x.cells e = (x.cells, 2) := by simp [chg, he, hx]
      rw [hC]
      repeat' (first | ((with_reducible refine hK _ ?_); clear hK K) | (with_reducible refine ak ?_ ?_) | ((with_reducible refine gi ?_); first | (refine aB ?_ ?_; rfl) | (refine aC ?_ ?_; (rfl; refine gF ?_))) | ((with_reducible refine gxi ?_); first | (refine aO ?_ ?_; rfl) | (refine aP ?_ ?_; (rfl; refine gxF ?_))) | ((with_reducible refine aU ?_); first | refine au (hc := (aA x hwl)) (h := ?_) | refine au (hc := (bM e.kind 1 6)) (h := ?_) | (refine dP (cu x (by omega)) (GCell.el _) ?_ ?_) | refine au (hc := hci) (h := ?_)) | ((with_reducible refine bG ?_); first | refine ay (hc := (aA x hwl)) (h := ?_) | refine ay (hc := (bM e.kind 1 6)) (h := ?_) | refine ay (hc := hci) (h := ?_)) | ((with_reducible refine aH ?_); refine ss (XR @GCell.el (XR k1 (XR k1n (XR k2 (XR k2n (XR k3 (XR k3n (XR k4 (XR k4n (XR k5 (XR k5n (XR k6 (XR k6n (XR hin (XR hval0 g))))))))))))))) ?_) | ((with_reducible refine bJ ?_); refine sx (XR @GCell.el (XR k1 (XR k1n (XR k2 (XR k2n (XR k3 (XR k3n (XR k4 (XR k4n (XR k5 (XR k5n (XR k6 (XR k6n (XR hin (XR hval0 g))))))))))))))) ?_) | refine nv ?_ | (refine rD ?_; intro K hK) | exact aZ | exact aI)
      exact aS ⟨⟨2, _, rfl, rfl, ⟨_, rfl, rfl, rfl, Or.inr (GCell.dK _)⟩, trivial⟩, ⟨_, rfl, rfl, trivial⟩⟩
    · have hci : aK _ _ _ _ := hx ▸ cZ x e.cell.id
      have g : decide ((k : Int) < 0) = false := by simp
      have hg := dR GCell.toD x.cells hkl
      have hget : x.cells[k]? = some x.cells[k] := List.getElem?_eq_getElem hkl
      have hvc := nG hval0 hkl
      have hvv := nD hvc
      have hwx := wfs_get hwl hkl
      have hwr := pO hvv
      have hwf := lS hwx hew hvv
      have c0 : ∀ z : Int, z = 0 → (z == 0) = true := fun z h => by rw [h]; rfl
      have c1 : ∀ z : Int, z = 1 → (z == 0) = false := fun z h => by rw [h]; rfl
      have c5 : ∀ z : Int, z = 5 → (z == 0) = false := fun z h => by rw [h]; rfl
      have c6 : ∀ z : Int, z = 6 → (z == 0) = false := fun z h => by rw [h]; rfl
      rcases uD x.cells[k] e with hc | hc | hc | hc
      · have hcc := c0 _ hc
        have hce : aK _ _ _ _ := hc ▸ gU x.cells[k] e hwx hew hvv
        have hz : ((0 : Int) == 0) = true := by decide
        have hres : dX x.cells[k] e = bg x.cells[k] e := by
          unfold aV at hc
          unfold dX
          repeat' split
          all_goals simp_all
        have hC : chg x.cells e = (x.cells.set k (bg x.cells[k] e), 0) := by simp [chg, he, hx, hget, hc]
        rw [hC]
        repeat' (first | ((with_reducible refine hK _ ?_); clear hK K) | (with_reducible refine ak ?_ ?_) | ((with_reducible refine gi ?_); first | (refine aB ?_ ?_; rfl) | (refine aC ?_ ?_; (rfl; refine gF ?_))) | ((with_reducible refine gxi ?_); first | (refine aO ?_ ?_; rfl) | (refine aP ?_ ?_; (rfl; refine gxF ?_))) | ((with_reducible refine aU ?_); first | refine au (hc := (aA x hwl)) (h := ?_) | refine au (hc := (bM e.kind 1 6)) (h := ?_) | (refine dP (cu x (by omega)) (GCell.el _) ?_ ?_) | refine au (hc := hci) (h := ?_) | refine au (hc := hce) (h := ?_)) | ((with_reducible refine bG ?_); first | refine ay (hc := (aA x hwl)) (h := ?_) | refine ay (hc := (bM e.kind 1 6)) (h := ?_) | refine ay (hc := hci) (h := ?_) | refine ay (hc := hce) (h := ?_)) | ((with_reducible refine aH ?_); refine ss (XR @GCell.el (XR k1 (XR k1n (XR k2 (XR k2n (XR k3 (XR k3n (XR k4 (XR k4n (XR k5 (XR k5n (XR k6 (XR k6n (XR hin (XR hval0 (XR g (XR hg (XR hkl hz)))))))))))))))))) ?_) | ((with_reducible refine bJ ?_); refine sx (XR @GCell.el (XR k1 (XR k1n (XR k2 (XR k2n (XR k3 (XR k3n (XR k4 (XR k4n (XR k5 (XR k5n (XR k6 (XR k6n (XR hin (XR hval0 (XR g (XR hg (XR hkl hz)))))))))))))))))) ?_) | refine nv ?_ | (refine rD ?_; intro K hK) | exact aZ | exact aI)
        exact aS ⟨⟨2, _, rfl, rfl, ⟨_, rfl, rfl, by rw [← nK, ← hres]; rfl, Or.inr (GCell.dK _)⟩, trivial⟩, ⟨_, rfl, rfl, trivial⟩⟩
      · have hcc := c1 _ hc
        have hce : aK _ _ _ _ := hc ▸ gU x.cells[k] e hwx hew hvv
        have hz : ((1 : Int) == 0) = false := by decide
        have hC : chg x.cells e = (x.cells, 1) := by simp [chg, he, hx, hget, hc]
        rw [hC]
        repeat' (first | ((with_reducible refine hK _ ?_); clear hK K) | (with_reducible refine ak ?_ ?_) | ((with_reducible refine gi ?_); first | (refine aB ?_ ?_; rfl) | (refine aC ?_ ?_; (rfl; refine gF ?_))) | ((with_reducible refine gxi ?_); first | (refine aO ?_ ?_; rfl) | (refine aP ?_ ?_; (rfl; refine gxF ?_))) | ((with_reducible refine aU ?_); first | refine au (hc := (aA x hwl)) (h := ?_) | refine au (hc := (bM e.kind 1 6)) (h := ?_) | (refine dP (cu x (by omega)) (GCell.el _) ?_ ?_) | refine au (hc := hci) (h := ?_) | refine au (hc := hce) (h := ?_)) | ((with_reducible refine bG ?_); first | refine ay (hc := (aA x hwl)) (h := ?_) | refine ay (hc := (bM e.kind 1 6)) (h := ?_) | refine ay (hc := hci) (h := ?_) | refine ay (hc := hce) (h := ?_)) | ((with_reducible refine aH ?_); refine ss (XR @GCell.el (XR k1 (XR k1n (XR k2 (XR k2n (XR k3 (XR k3n (XR k4 (XR k4n (XR k5 (XR k5n (XR k6 (XR k6n (XR hin (XR hval0 (XR g (XR hg (XR hkl hz)))))))))))))))))) ?_) | ((with_reducible refine bJ ?_); refine sx (XR @GCell.el (XR k1 (XR k1n (XR k2 (XR k2n (XR k3 (XR k3n (XR k4 (XR k4n (XR k5 (XR k5n (XR k6 (XR k6n (XR hin (XR hval0 (XR g (XR hg (XR hkl hz)))))))))))))))))) ?_) | refine nv ?_ | (refine rD ?_; intro K hK) | exact aZ | exact aI)
        exact aS ⟨⟨2, _, rfl, rfl, ⟨_, rfl, rfl, rfl, Or.inr (GCell.dK _)⟩, trivial⟩, ⟨_, rfl, rfl, trivial⟩⟩
      · have hcc := c5 _ hc
        have hce : aK _ _ _ _ := hc ▸ gU x.cells[k] e hwx hew hvv
        have hz : ((5 : Int) == 0) = false := by decide
        have hC : chg x.cells e = (x.cells, 5) := by simp [chg, he, hx, hget, hc]
        rw [hC]
        repeat' (first | ((with_reducible refine hK _ ?_); clear hK K) | (with_reducible refine ak ?_ ?_) | ((with_reducible refine gi ?_); first | (refine aB ?_ ?_; rfl) | (refine aC ?_ ?_; (rfl; refine gF ?_))) | ((with_reducible refine gxi ?_); first | (refine aO ?_ ?_; rfl) | (refine aP ?_ ?_; (rfl; refine gxF ?_))) | ((with_reducible refine aU ?_); first | refine au (hc := (aA x hwl)) (h := ?_) | refine au (hc := (bM e.kind 1 6)) (h := ?_) | (refine dP (cu x (by omega)) (GCell.el _) ?_ ?_) | refine au (hc := hci) (h := ?_) | refine au (hc := hce) (h := ?_)) | ((with_reducible refine bG ?_); first | refine ay (hc := (aA x hwl)) (h := ?_) | refine ay (hc := (bM e.kind 1 6)) (h := ?_) | refine ay (hc := hci) (h := ?_) | refine ay (hc := hce) (h := ?_)) | ((with_reducible refine aH ?_); refine ss (XR @GCell.el (XR k1 (XR k1n (XR k2 (XR k2n (XR k3 (XR k3n (XR k4 (XR k4n (XR k5 (XR k5n (XR k6 (XR k6n (XR hin (XR hval0 (XR g (XR hg (XR hkl hz)))))))))))))))))) ?_) | ((with_reducible refine bJ ?_); refine sx (XR @GCell.el (XR k1 (XR k1n (XR k2 (XR k2n (XR k3 (XR k3n (XR k4 (XR k4n (XR k5 (XR k5n (XR k6 (XR k6n (XR hin (XR hval0 (XR g (XR hg (XR hkl hz)))))))))))))))))) ?_) | refine nv ?_ | (refine rD ?_; intro K hK) | exact aZ | exact aI)
        exact aS ⟨⟨2, _, rfl, rfl, ⟨_, rfl, rfl, rfl, Or.inr (GCell.dK _)⟩, trivial⟩, ⟨_, rfl, rfl, trivial⟩⟩
      · have hcc := c6 _ hc
        have hce : aK _ _ _ _ := hc ▸ gU x.cells[k] e hwx hew hvv
        have hz : ((6 : Int) == 0) = false := by decide
        have hC : chg x.cells e = (x.cells, 6) := by simp [chg, he, hx, hget, hc]
        rw [hC]
        repeat' (first | ((with_reducible refine hK _ ?_); clear hK K) | (with_reducible refine ak ?_ ?_) | ((with_reducible refine gi ?_); first | (refine aB ?_ ?_; rfl) | (refine aC ?_ ?_; (rfl; refine gF ?_))) | ((with_reducible refine gxi ?_); first | (refine aO ?_ ?_; rfl) | (refine aP ?_ ?_; (rfl; refine gxF ?_))) | ((with_reducible refine aU ?_); first | refine au (hc := (aA x hwl)) (h := ?_) | refine au (hc := (bM e.kind 1 6)) (h := ?_) | (refine dP (cu x (by omega)) (GCell.el _) ?_ ?_) | refine au (hc := hci) (h := ?_) | refine au (hc := hce) (h := ?_)) | ((with_reducible refine bG ?_); first | refine ay (hc := (aA x hwl)) (h := ?_) | refine ay (hc := (bM e.kind 1 6)) (h := ?_) | refine ay (hc := hci) (h := ?_) | refine ay (hc := hce) (h := ?_)) | ((with_reducible refine aH ?_); refine ss (XR @GCell.el (XR k1 (XR k1n (XR k2 (XR k2n (XR k3 (XR k3n (XR k4 (XR k4n (XR k5 (XR k5n (XR k6 (XR k6n (XR hin (XR hval0 (XR g (XR hg (XR hkl hz)))))))))))))))))) ?_) | ((with_reducible refine bJ ?_); refine sx (XR @GCell.el (XR k1 (XR k1n (XR k2 (XR k2n (XR k3 (XR k3n (XR k4 (XR k4n (XR k5 (XR k5n (XR k6 (XR k6n (XR hin (XR hval0 (XR g (XR hg (XR hkl hz)))))))))))))))))) ?_) | refine nv ?_ | (refine rD ?_; intro K hK) | exact aZ | exact aI)
        exact aS ⟨⟨2, _, rfl, rfl, ⟨_, rfl, rfl, rfl, Or.inr (GCell.dK _)⟩, trivial⟩, ⟨_, rfl, rfl, trivial⟩⟩
set_option maxHeartbeats 40000000 in
theorem D5 (x : GNb) (e : GEdit) (hn : x.cells.length ≤ 1048576) (hwl : D.wfs (x.cells.map GCell.toD)) (hew : e.toD.wf) (hval0 : dB x.cells = true) (hin : inR e.kind 1 6 = true) (hk0 : e.kind = 5) : AWP Try.prog dI (kH fun st => sW (.cell 4 26) true [.sl true ((app x.cells e).1.map GCell.toD)] st ∧ sW (.tmp 5) false [.raw (.int .i64 (app x.cells e).2)] st) (st0 100 [x.toD, e.toD]) := by
  have hlen := kJ hval0
  have hwc : e.cell.toD.wf := hew.2.2.1
  have hA : app x.cells e = chg x.cells e := by simp [app, hval0, hin]
  rw [hA]
  unfold dI
  refine sS trivial ?_
  · -- kind 5
    have he : e.kind = 5 := hk0
    have k1 : (e.kind == 1) = false := by rw [he]; rfl
    have k1n : (e.kind != 1) = true := by rw [he]; rfl
    have k2 : (e.kind == 2) = false := by rw [he]; rfl
    have k2n : (e.kind != 2) = true := by rw [he]; rfl
    have k3 : (e.kind == 3) = false := by rw [he]; rfl
    have k3n : (e.kind != 3) = true := by rw [he]; rfl
    have k4 : (e.kind == 4) = false := by rw [he]; rfl
    have k4n : (e.kind != 4) = true := by rw [he]; rfl
    have k5 : (e.kind == 5) = true := by rw [he]; rfl
    have k5n : (e.kind != 5) = false := by rw [he]; rfl
    have k6 : (e.kind == 6) = false := by rw [he]; rfl
    have k6n : (e.kind != 6) = true := by rw [he]; rfl
    rcases dG x.cells e.cell.id with hx | ⟨k, hkl, hx⟩
    · have hci : aK _ _ _ _ := hx ▸ cZ x e.cell.id
      have g : decide ((-1 : Int) < 0) = true := by decide
      have hC : chg x.cells e = (x.cells, 2) := by simp [chg, he, hx]
      rw [hC]
      repeat' (first | ((with_reducible refine hK _ ?_); clear hK K) | (with_reducible refine ak ?_ ?_) | ((with_reducible refine gi ?_); first | (refine aB ?_ ?_; rfl) | (refine aC ?_ ?_; (rfl; refine gF ?_))) | ((with_reducible refine gxi ?_); first | (refine aO ?_ ?_; rfl) | (refine aP ?_ ?_; (rfl; refine gxF ?_))) | ((with_reducible refine aU ?_); first | refine au (hc := (aA x hwl)) (h := ?_) | refine au (hc := (bM e.kind 1 6)) (h := ?_) | (refine dP (cu x (by omega)) (GCell.el _) ?_ ?_) | refine au (hc := hci) (h := ?_)) | ((with_reducible refine bG ?_); first | refine ay (hc := (aA x hwl)) (h := ?_) | refine ay (hc := (bM e.kind 1 6)) (h := ?_) | refine ay (hc := hci) (h := ?_)) | ((with_reducible refine aH ?_); refine ss (XR @GCell.el (XR k1 (XR k1n (XR k2 (XR k2n (XR k3 (XR k3n (XR k4 (XR k4n (XR k5 (XR k5n (XR k6 (XR k6n (XR hin (XR hval0 g))))))))))))))) ?_) | ((with_reducible refine bJ ?_); refine sx (XR @GCell.el (XR k1 (XR k1n (XR k2 (XR k2n (XR k3 (XR k3n (XR k4 (XR k4n (XR k5 (XR k5n (XR k6 (XR k6n (XR hin (XR hval0 g))))))))))))))) ?_) | refine nv ?_ | (refine rD ?_; intro K hK) | exact aZ | exact aI)
      exact aS ⟨⟨2, _, rfl, rfl, ⟨_, rfl, rfl, rfl, Or.inr (GCell.dK _)⟩, trivial⟩, ⟨_, rfl, rfl, trivial⟩⟩
    · have hci : aK _ _ _ _ := hx ▸ cZ x e.cell.id
      have g : decide ((k : Int) < 0) = false := by simp
      have hg := dR GCell.toD x.cells hkl
      have hget : x.cells[k]? = some x.cells[k] := List.getElem?_eq_getElem hkl
      have hvc := nG hval0 hkl
      have hvv := nD hvc
      have hwx := wfs_get hwl hkl
      have hwr := pO hvv
      have hwf := lS hwx hew hvv
      have c0 : ∀ z : Int, z = 0 → (z == 0) = true := fun z h => by rw [h]; rfl
      have c1 : ∀ z : Int, z = 1 → (z == 0) = false := fun z h => by rw [h]; rfl
      have c5 : ∀ z : Int, z = 5 → (z == 0) = false := fun z h => by rw [h]; rfl
      have c6 : ∀ z : Int, z = 6 → (z == 0) = false := fun z h => by rw [h]; rfl
      rcases uD x.cells[k] e with hc | hc | hc | hc
      · have hcc := c0 _ hc
        have hce : aK _ _ _ _ := hc ▸ gU x.cells[k] e hwx hew hvv
        have hz : ((0 : Int) == 0) = true := by decide
        have hres : dX x.cells[k] e = bg x.cells[k] e := by
          unfold aV at hc
          unfold dX
          repeat' split
          all_goals simp_all
        have hC : chg x.cells e = (x.cells.set k (bg x.cells[k] e), 0) := by simp [chg, he, hx, hget, hc]
        rw [hC]
        repeat' (first | ((with_reducible refine hK _ ?_); clear hK K) | (with_reducible refine ak ?_ ?_) | ((with_reducible refine gi ?_); first | (refine aB ?_ ?_; rfl) | (refine aC ?_ ?_; (rfl; refine gF ?_))) | ((with_reducible refine gxi ?_); first | (refine aO ?_ ?_; rfl) | (refine aP ?_ ?_; (rfl; refine gxF ?_))) | ((with_reducible refine aU ?_); first | refine au (hc := (aA x hwl)) (h := ?_) | refine au (hc := (bM e.kind 1 6)) (h := ?_) | (refine dP (cu x (by omega)) (GCell.el _) ?_ ?_) | refine au (hc := hci) (h := ?_) | refine au (hc := hce) (h := ?_)) | ((with_reducible refine bG ?_); first | refine ay (hc := (aA x hwl)) (h := ?_) | refine ay (hc := (bM e.kind 1 6)) (h := ?_) | refine ay (hc := hci) (h := ?_) | refine ay (hc := hce) (h := ?_)) | ((with_reducible refine aH ?_); refine ss (XR @GCell.el (XR k1 (XR k1n (XR k2 (XR k2n (XR k3 (XR k3n (XR k4 (XR k4n (XR k5 (XR k5n (XR k6 (XR k6n (XR hin (XR hval0 (XR g (XR hg (XR hkl hz)))))))))))))))))) ?_) | ((with_reducible refine bJ ?_); refine sx (XR @GCell.el (XR k1 (XR k1n (XR k2 (XR k2n (XR k3 (XR k3n (XR k4 (XR k4n (XR k5 (XR k5n (XR k6 (XR k6n (XR hin (XR hval0 (XR g (XR hg (XR hkl hz)))))))))))))))))) ?_) | refine nv ?_ | (refine rD ?_; intro K hK) | exact aZ | exact aI)
        exact aS ⟨⟨2, _, rfl, rfl, ⟨_, rfl, rfl, by rw [← nK, ← hres]; rfl, Or.inr (GCell.dK _)⟩, trivial⟩, ⟨_, rfl, rfl, trivial⟩⟩
      · have hcc := c1 _ hc
        have hce : aK _ _ _ _ := hc ▸ gU x.cells[k] e hwx hew hvv
        have hz : ((1 : Int) == 0) = false := by decide
        have hC : chg x.cells e = (x.cells, 1) := by simp [chg, he, hx, hget, hc]
        rw [hC]
        repeat' (first | ((with_reducible refine hK _ ?_); clear hK K) | (with_reducible refine ak ?_ ?_) | ((with_reducible refine gi ?_); first | (refine aB ?_ ?_; rfl) | (refine aC ?_ ?_; (rfl; refine gF ?_))) | ((with_reducible refine gxi ?_); first | (refine aO ?_ ?_; rfl) | (refine aP ?_ ?_; (rfl; refine gxF ?_))) | ((with_reducible refine aU ?_); first | refine au (hc := (aA x hwl)) (h := ?_) | refine au (hc := (bM e.kind 1 6)) (h := ?_) | (refine dP (cu x (by omega)) (GCell.el _) ?_ ?_) | refine au (hc := hci) (h := ?_) | refine au (hc := hce) (h := ?_)) | ((with_reducible refine bG ?_); first | refine ay (hc := (aA x hwl)) (h := ?_) | refine ay (hc := (bM e.kind 1 6)) (h := ?_) | refine ay (hc := hci) (h := ?_) | refine ay (hc := hce) (h := ?_)) | ((with_reducible refine aH ?_); refine ss (XR @GCell.el (XR k1 (XR k1n (XR k2 (XR k2n (XR k3 (XR k3n (XR k4 (XR k4n (XR k5 (XR k5n (XR k6 (XR k6n (XR hin (XR hval0 (XR g (XR hg (XR hkl hz)))))))))))))))))) ?_) | ((with_reducible refine bJ ?_); refine sx (XR @GCell.el (XR k1 (XR k1n (XR k2 (XR k2n (XR k3 (XR k3n (XR k4 (XR k4n (XR k5 (XR k5n (XR k6 (XR k6n (XR hin (XR hval0 (XR g (XR hg (XR hkl hz)))))))))))))))))) ?_) | refine nv ?_ | (refine rD ?_; intro K hK) | exact aZ | exact aI)
        exact aS ⟨⟨2, _, rfl, rfl, ⟨_, rfl, rfl, rfl, Or.inr (GCell.dK _)⟩, trivial⟩, ⟨_, rfl, rfl, trivial⟩⟩
      · have hcc := c5 _ hc
        have hce : aK _ _ _ _ := hc ▸ gU x.cells[k] e hwx hew hvv
        have hz : ((5 : Int) == 0) = false := by decide
        have hC : chg x.cells e = (x.cells, 5) := by simp [chg, he, hx, hget, hc]
        rw [hC]
        repeat' (first | ((with_reducible refine hK _ ?_); clear hK K) | (with_reducible refine ak ?_ ?_) | ((with_reducible refine gi ?_); first | (refine aB ?_ ?_; rfl) | (refine aC ?_ ?_; (rfl; refine gF ?_))) | ((with_reducible refine gxi ?_); first | (refine aO ?_ ?_; rfl) | (refine aP ?_ ?_; (rfl; refine gxF ?_))) | ((with_reducible refine aU ?_); first | refine au (hc := (aA x hwl)) (h := ?_) | refine au (hc := (bM e.kind 1 6)) (h := ?_) | (refine dP (cu x (by omega)) (GCell.el _) ?_ ?_) | refine au (hc := hci) (h := ?_) | refine au (hc := hce) (h := ?_)) | ((with_reducible refine bG ?_); first | refine ay (hc := (aA x hwl)) (h := ?_) | refine ay (hc := (bM e.kind 1 6)) (h := ?_) | refine ay (hc := hci) (h := ?_) | refine ay (hc := hce) (h := ?_)) | ((with_reducible refine aH ?_); refine ss (XR @GCell.el (XR k1 (XR k1n (XR k2 (XR k2n (XR k3 (XR k3n (XR k4 (XR k4n (XR k5 (XR k5n (XR k6 (XR k6n (XR hin (XR hval0 (XR g (XR hg (XR hkl hz)))))))))))))))))) ?_) | ((with_reducible refine bJ ?_); refine sx (XR @GCell.el (XR k1 (XR k1n (XR k2 (XR k2n (XR k3 (XR k3n (XR k4 (XR k4n (XR k5 (XR k5n (XR k6 (XR k6n (XR hin (XR hval0 (XR g (XR hg (XR hkl hz)))))))))))))))))) ?_) | refine nv ?_ | (refine rD ?_; intro K hK) | exact aZ | exact aI)
        exact aS ⟨⟨2, _, rfl, rfl, ⟨_, rfl, rfl, rfl, Or.inr (GCell.dK _)⟩, trivial⟩, ⟨_, rfl, rfl, trivial⟩⟩
      · have hcc := c6 _ hc
        have hce : aK _ _ _ _ := hc ▸ gU x.cells[k] e hwx hew hvv
        have hz : ((6 : Int) == 0) = false := by decide
        have hC : chg x.cells e = (x.cells, 6) := by simp [chg, he, hx, hget, hc]
        rw [hC]
        repeat' (first | ((with_reducible refine hK _ ?_); clear hK K) | (with_reducible refine ak ?_ ?_) | ((with_reducible refine gi ?_); first | (refine aB ?_ ?_; rfl) | (refine aC ?_ ?_; (rfl; refine gF ?_))) | ((with_reducible refine gxi ?_); first | (refine aO ?_ ?_; rfl) | (refine aP ?_ ?_; (rfl; refine gxF ?_))) | ((with_reducible refine aU ?_); first | refine au (hc := (aA x hwl)) (h := ?_) | refine au (hc := (bM e.kind 1 6)) (h := ?_) | (refine dP (cu x (by omega)) (GCell.el _) ?_ ?_) | refine au (hc := hci) (h := ?_) | refine au (hc := hce) (h := ?_)) | ((with_reducible refine bG ?_); first | refine ay (hc := (aA x hwl)) (h := ?_) | refine ay (hc := (bM e.kind 1 6)) (h := ?_) | refine ay (hc := hci) (h := ?_) | refine ay (hc := hce) (h := ?_)) | ((with_reducible refine aH ?_); refine ss (XR @GCell.el (XR k1 (XR k1n (XR k2 (XR k2n (XR k3 (XR k3n (XR k4 (XR k4n (XR k5 (XR k5n (XR k6 (XR k6n (XR hin (XR hval0 (XR g (XR hg (XR hkl hz)))))))))))))))))) ?_) | ((with_reducible refine bJ ?_); refine sx (XR @GCell.el (XR k1 (XR k1n (XR k2 (XR k2n (XR k3 (XR k3n (XR k4 (XR k4n (XR k5 (XR k5n (XR k6 (XR k6n (XR hin (XR hval0 (XR g (XR hg (XR hkl hz)))))))))))))))))) ?_) | refine nv ?_ | (refine rD ?_; intro K hK) | exact aZ | exact aI)
        exact aS ⟨⟨2, _, rfl, rfl, ⟨_, rfl, rfl, rfl, Or.inr (GCell.dK _)⟩, trivial⟩, ⟨_, rfl, rfl, trivial⟩⟩
set_option maxHeartbeats 40000000 in
theorem DZ (x : GNb) (e : GEdit) (hn : x.cells.length ≤ 1048576) (hwl : D.wfs (x.cells.map GCell.toD)) (hew : e.toD.wf) (hval0 : dB x.cells = true) (hin : inR e.kind 1 6 = true) (hk0 : e.kind = 6) : AWP Try.prog dI (kH fun st => sW (.cell 4 26) true [.sl true ((app x.cells e).1.map GCell.toD)] st ∧ sW (.tmp 5) false [.raw (.int .i64 (app x.cells e).2)] st) (st0 100 [x.toD, e.toD]) := by
  have hlen := kJ hval0
  have hwc : e.cell.toD.wf := hew.2.2.1
  have hA : app x.cells e = chg x.cells e := by simp [app, hval0, hin]
  rw [hA]
  unfold dI
  refine sS trivial ?_
  · -- kind 6
    have he : e.kind = 6 := hk0
    have k1 : (e.kind == 1) = false := by rw [he]; rfl
    have k1n : (e.kind != 1) = true := by rw [he]; rfl
    have k2 : (e.kind == 2) = false := by rw [he]; rfl
    have k2n : (e.kind != 2) = true := by rw [he]; rfl
    have k3 : (e.kind == 3) = false := by rw [he]; rfl
    have k3n : (e.kind != 3) = true := by rw [he]; rfl
    have k4 : (e.kind == 4) = false := by rw [he]; rfl
    have k4n : (e.kind != 4) = true := by rw [he]; rfl
    have k5 : (e.kind == 5) = false := by rw [he]; rfl
    have k5n : (e.kind != 5) = true := by rw [he]; rfl
    have k6 : (e.kind == 6) = true := by rw [he]; rfl
    have k6n : (e.kind != 6) = false := by rw [he]; rfl
    rcases dG x.cells e.cell.id with hx | ⟨k, hkl, hx⟩
    · have hci : aK _ _ _ _ := hx ▸ cZ x e.cell.id
      have g : decide ((-1 : Int) < 0) = true := by decide
      have hC : chg x.cells e = (x.cells, 2) := by simp [chg, he, hx]
      rw [hC]
      repeat' (first | ((with_reducible refine hK _ ?_); clear hK K) | (with_reducible refine ak ?_ ?_) | ((with_reducible refine gi ?_); first | (refine aB ?_ ?_; rfl) | (refine aC ?_ ?_; (rfl; refine gF ?_))) | ((with_reducible refine gxi ?_); first | (refine aO ?_ ?_; rfl) | (refine aP ?_ ?_; (rfl; refine gxF ?_))) | ((with_reducible refine aU ?_); first | refine au (hc := (aA x hwl)) (h := ?_) | refine au (hc := (bM e.kind 1 6)) (h := ?_) | (refine dP (cu x (by omega)) (GCell.el _) ?_ ?_) | refine au (hc := hci) (h := ?_)) | ((with_reducible refine bG ?_); first | refine ay (hc := (aA x hwl)) (h := ?_) | refine ay (hc := (bM e.kind 1 6)) (h := ?_) | refine ay (hc := hci) (h := ?_)) | ((with_reducible refine aH ?_); refine ss (XR @GCell.el (XR k1 (XR k1n (XR k2 (XR k2n (XR k3 (XR k3n (XR k4 (XR k4n (XR k5 (XR k5n (XR k6 (XR k6n (XR hin (XR hval0 g))))))))))))))) ?_) | ((with_reducible refine bJ ?_); refine sx (XR @GCell.el (XR k1 (XR k1n (XR k2 (XR k2n (XR k3 (XR k3n (XR k4 (XR k4n (XR k5 (XR k5n (XR k6 (XR k6n (XR hin (XR hval0 g))))))))))))))) ?_) | refine nv ?_ | (refine rD ?_; intro K hK) | exact aZ | exact aI)
      exact aS ⟨⟨2, _, rfl, rfl, ⟨_, rfl, rfl, rfl, Or.inr (GCell.dK _)⟩, trivial⟩, ⟨_, rfl, rfl, trivial⟩⟩
    · have hci : aK _ _ _ _ := hx ▸ cZ x e.cell.id
      have g : decide ((k : Int) < 0) = false := by simp
      have hg := dR GCell.toD x.cells hkl
      have hget : x.cells[k]? = some x.cells[k] := List.getElem?_eq_getElem hkl
      have hvc := nG hval0 hkl
      have hvv := nD hvc
      have hwx := wfs_get hwl hkl
      have hwr := pO hvv
      have hwf := lS hwx hew hvv
      have c0 : ∀ z : Int, z = 0 → (z == 0) = true := fun z h => by rw [h]; rfl
      have c1 : ∀ z : Int, z = 1 → (z == 0) = false := fun z h => by rw [h]; rfl
      have c5 : ∀ z : Int, z = 5 → (z == 0) = false := fun z h => by rw [h]; rfl
      have c6 : ∀ z : Int, z = 6 → (z == 0) = false := fun z h => by rw [h]; rfl
      rcases uD x.cells[k] e with hc | hc | hc | hc
      · have hcc := c0 _ hc
        have hce : aK _ _ _ _ := hc ▸ gU x.cells[k] e hwx hew hvv
        have hz : ((0 : Int) == 0) = true := by decide
        have hres : dX x.cells[k] e = bg x.cells[k] e := by
          unfold aV at hc
          unfold dX
          repeat' split
          all_goals simp_all
        have hC : chg x.cells e = (x.cells.set k (bg x.cells[k] e), 0) := by simp [chg, he, hx, hget, hc]
        rw [hC]
        repeat' (first | ((with_reducible refine hK _ ?_); clear hK K) | (with_reducible refine ak ?_ ?_) | ((with_reducible refine gi ?_); first | (refine aB ?_ ?_; rfl) | (refine aC ?_ ?_; (rfl; refine gF ?_))) | ((with_reducible refine gxi ?_); first | (refine aO ?_ ?_; rfl) | (refine aP ?_ ?_; (rfl; refine gxF ?_))) | ((with_reducible refine aU ?_); first | refine au (hc := (aA x hwl)) (h := ?_) | refine au (hc := (bM e.kind 1 6)) (h := ?_) | (refine dP (cu x (by omega)) (GCell.el _) ?_ ?_) | refine au (hc := hci) (h := ?_) | refine au (hc := hce) (h := ?_)) | ((with_reducible refine bG ?_); first | refine ay (hc := (aA x hwl)) (h := ?_) | refine ay (hc := (bM e.kind 1 6)) (h := ?_) | refine ay (hc := hci) (h := ?_) | refine ay (hc := hce) (h := ?_)) | ((with_reducible refine aH ?_); refine ss (XR @GCell.el (XR k1 (XR k1n (XR k2 (XR k2n (XR k3 (XR k3n (XR k4 (XR k4n (XR k5 (XR k5n (XR k6 (XR k6n (XR hin (XR hval0 (XR g (XR hg (XR hkl hz)))))))))))))))))) ?_) | ((with_reducible refine bJ ?_); refine sx (XR @GCell.el (XR k1 (XR k1n (XR k2 (XR k2n (XR k3 (XR k3n (XR k4 (XR k4n (XR k5 (XR k5n (XR k6 (XR k6n (XR hin (XR hval0 (XR g (XR hg (XR hkl hz)))))))))))))))))) ?_) | refine nv ?_ | (refine rD ?_; intro K hK) | exact aZ | exact aI)
        exact aS ⟨⟨2, _, rfl, rfl, ⟨_, rfl, rfl, by rw [← nK, ← hres]; rfl, Or.inr (GCell.dK _)⟩, trivial⟩, ⟨_, rfl, rfl, trivial⟩⟩
      · have hcc := c1 _ hc
        have hce : aK _ _ _ _ := hc ▸ gU x.cells[k] e hwx hew hvv
        have hz : ((1 : Int) == 0) = false := by decide
        have hC : chg x.cells e = (x.cells, 1) := by simp [chg, he, hx, hget, hc]
        rw [hC]
        repeat' (first | ((with_reducible refine hK _ ?_); clear hK K) | (with_reducible refine ak ?_ ?_) | ((with_reducible refine gi ?_); first | (refine aB ?_ ?_; rfl) | (refine aC ?_ ?_; (rfl; refine gF ?_))) | ((with_reducible refine gxi ?_); first | (refine aO ?_ ?_; rfl) | (refine aP ?_ ?_; (rfl; refine gxF ?_))) | ((with_reducible refine aU ?_); first | refine au (hc := (aA x hwl)) (h := ?_) | refine au (hc := (bM e.kind 1 6)) (h := ?_) | (refine dP (cu x (by omega)) (GCell.el _) ?_ ?_) | refine au (hc := hci) (h := ?_) | refine au (hc := hce) (h := ?_)) | ((with_reducible refine bG ?_); first | refine ay (hc := (aA x hwl)) (h := ?_) | refine ay (hc := (bM e.kind 1 6)) (h := ?_) | refine ay (hc := hci) (h := ?_) | refine ay (hc := hce) (h := ?_)) | ((with_reducible refine aH ?_); refine ss (XR @GCell.el (XR k1 (XR k1n (XR k2 (XR k2n (XR k3 (XR k3n (XR k4 (XR k4n (XR k5 (XR k5n (XR k6 (XR k6n (XR hin (XR hval0 (XR g (XR hg (XR hkl hz)))))))))))))))))) ?_) | ((with_reducible refine bJ ?_); refine sx (XR @GCell.el (XR k1 (XR k1n (XR k2 (XR k2n (XR k3 (XR k3n (XR k4 (XR k4n (XR k5 (XR k5n (XR k6 (XR k6n (XR hin (XR hval0 (XR g (XR hg (XR hkl hz)))))))))))))))))) ?_) | refine nv ?_ | (refine rD ?_; intro K hK) | exact aZ | exact aI)
        exact aS ⟨⟨2, _, rfl, rfl, ⟨_, rfl, rfl, rfl, Or.inr (GCell.dK _)⟩, trivial⟩, ⟨_, rfl, rfl, trivial⟩⟩
      · have hcc := c5 _ hc
        have hce : aK _ _ _ _ := hc ▸ gU x.cells[k] e hwx hew hvv
        have hz : ((5 : Int) == 0) = false := by decide
        have hC : chg x.cells e = (x.cells, 5) := by simp [chg, he, hx, hget, hc]
        rw [hC]
        repeat' (first | ((with_reducible refine hK _ ?_); clear hK K) | (with_reducible refine ak ?_ ?_) | ((with_reducible refine gi ?_); first | (refine aB ?_ ?_; rfl) | (refine aC ?_ ?_; (rfl; refine gF ?_))) | ((with_reducible refine gxi ?_); first | (refine aO ?_ ?_; rfl) | (refine aP ?_ ?_; (rfl; refine gxF ?_))) | ((with_reducible refine aU ?_); first | refine au (hc := (aA x hwl)) (h := ?_) | refine au (hc := (bM e.kind 1 6)) (h := ?_) | (refine dP (cu x (by omega)) (GCell.el _) ?_ ?_) | refine au (hc := hci) (h := ?_) | refine au (hc := hce) (h := ?_)) | ((with_reducible refine bG ?_); first | refine ay (hc := (aA x hwl)) (h := ?_) | refine ay (hc := (bM e.kind 1 6)) (h := ?_) | refine ay (hc := hci) (h := ?_) | refine ay (hc := hce) (h := ?_)) | ((with_reducible refine aH ?_); refine ss (XR @GCell.el (XR k1 (XR k1n (XR k2 (XR k2n (XR k3 (XR k3n (XR k4 (XR k4n (XR k5 (XR k5n (XR k6 (XR k6n (XR hin (XR hval0 (XR g (XR hg (XR hkl hz)))))))))))))))))) ?_) | ((with_reducible refine bJ ?_); refine sx (XR @GCell.el (XR k1 (XR k1n (XR k2 (XR k2n (XR k3 (XR k3n (XR k4 (XR k4n (XR k5 (XR k5n (XR k6 (XR k6n (XR hin (XR hval0 (XR g (XR hg (XR hkl hz)))))))))))))))))) ?_) | refine nv ?_ | (refine rD ?_; intro K hK) | exact aZ | exact aI)
        exact aS ⟨⟨2, _, rfl, rfl, ⟨_, rfl, rfl, rfl, Or.inr (GCell.dK _)⟩, trivial⟩, ⟨_, rfl, rfl, trivial⟩⟩
      · have hcc := c6 _ hc
        have hce : aK _ _ _ _ := hc ▸ gU x.cells[k] e hwx hew hvv
        have hz : ((6 : Int) == 0) = false := by decide
        have hC : chg x.cells e = (x.cells, 6) := by simp [chg, he, hx, hget, hc]
        rw [hC]
        repeat' (first | ((with_reducible refine hK _ ?_); clear hK K) | (with_reducible refine ak ?_ ?_) | ((with_reducible refine gi ?_); first | (refine aB ?_ ?_; rfl) | (refine aC ?_ ?_; (rfl; refine gF ?_))) | ((with_reducible refine gxi ?_); first | (refine aO ?_ ?_; rfl) | (refine aP ?_ ?_; (rfl; refine gxF ?_))) | ((with_reducible refine aU ?_); first | refine au (hc := (aA x hwl)) (h := ?_) | refine au (hc := (bM e.kind 1 6)) (h := ?_) | (refine dP (cu x (by omega)) (GCell.el _) ?_ ?_) | refine au (hc := hci) (h := ?_) | refine au (hc := hce) (h := ?_)) | ((with_reducible refine bG ?_); first | refine ay (hc := (aA x hwl)) (h := ?_) | refine ay (hc := (bM e.kind 1 6)) (h := ?_) | refine ay (hc := hci) (h := ?_) | refine ay (hc := hce) (h := ?_)) | ((with_reducible refine aH ?_); refine ss (XR @GCell.el (XR k1 (XR k1n (XR k2 (XR k2n (XR k3 (XR k3n (XR k4 (XR k4n (XR k5 (XR k5n (XR k6 (XR k6n (XR hin (XR hval0 (XR g (XR hg (XR hkl hz)))))))))))))))))) ?_) | ((with_reducible refine bJ ?_); refine sx (XR @GCell.el (XR k1 (XR k1n (XR k2 (XR k2n (XR k3 (XR k3n (XR k4 (XR k4n (XR k5 (XR k5n (XR k6 (XR k6n (XR hin (XR hval0 (XR g (XR hg (XR hkl hz)))))))))))))))))) ?_) | refine nv ?_ | (refine rD ?_; intro K hK) | exact aZ | exact aI)
        exact aS ⟨⟨2, _, rfl, rfl, ⟨_, rfl, rfl, rfl, Or.inr (GCell.dK _)⟩, trivial⟩, ⟨_, rfl, rfl, trivial⟩⟩
set_option maxHeartbeats 40000000 in
theorem DY (x : GNb) (e : GEdit) (hn : x.cells.length ≤ 1048576) (hwl : D.wfs (x.cells.map GCell.toD)) (hew : e.toD.wf) : aK Try.prog 23 [x.toD, e.toD] (.tup [(true, [.sl true ((app x.cells e).1.map GCell.toD)]), (false, [.raw (.int .i64 (app x.cells e).2)])]) := by
  refine yY (fn := Try.f23) (r := .cell 4 26) (q := .tmp 5) (by kernel_rfl) (by kernel_rfl) (by kernel_rfl) (by kernel_rfl) yQ ?_
  change AWP _ _ _ (st0 100 _)
  cases hval0 : dB x.cells with
  | false =>
    have hA : app x.cells e = (x.cells, 1) := by simp [app, hval0]
    rw [hA]
    unfold dI
    refine sS trivial ?_
    repeat' (first | ((with_reducible refine hK _ ?_); clear hK K) | (with_reducible refine ak ?_ ?_) | ((with_reducible refine gi ?_); first | (refine aB ?_ ?_; rfl) | (refine aC ?_ ?_; (rfl; refine gF ?_))) | ((with_reducible refine gxi ?_); first | (refine aO ?_ ?_; rfl) | (refine aP ?_ ?_; (rfl; refine gxF ?_))) | ((with_reducible refine aU ?_); first | refine au (hc := (aA x hwl)) (h := ?_) | refine au (hc := (bM e.kind 1 6)) (h := ?_) | (refine dP (cu x (by omega)) (GCell.el _) ?_ ?_)) | ((with_reducible refine bG ?_); first | refine ay (hc := (aA x hwl)) (h := ?_) | refine ay (hc := (bM e.kind 1 6)) (h := ?_)) | ((with_reducible refine aH ?_); refine ss (XR @GCell.el hval0) ?_) | ((with_reducible refine bJ ?_); refine sx (XR @GCell.el hval0) ?_) | refine nv ?_ | (refine rD ?_; intro K hK) | exact aZ | exact aI)
    exact aS ⟨⟨2, _, rfl, rfl, ⟨_, rfl, rfl, rfl, Or.inr (GCell.dK _)⟩, trivial⟩, ⟨_, rfl, rfl, trivial⟩⟩
  | true =>
  cases hin : inR e.kind 1 6 with
  | false =>
    have hA : app x.cells e = (x.cells, 1) := by simp [app, hval0, hin]
    rw [hA]
    unfold dI
    refine sS trivial ?_
    repeat' (first | ((with_reducible refine hK _ ?_); clear hK K) | (with_reducible refine ak ?_ ?_) | ((with_reducible refine gi ?_); first | (refine aB ?_ ?_; rfl) | (refine aC ?_ ?_; (rfl; refine gF ?_))) | ((with_reducible refine gxi ?_); first | (refine aO ?_ ?_; rfl) | (refine aP ?_ ?_; (rfl; refine gxF ?_))) | ((with_reducible refine aU ?_); first | refine au (hc := (aA x hwl)) (h := ?_) | refine au (hc := (bM e.kind 1 6)) (h := ?_) | (refine dP (cu x (by omega)) (GCell.el _) ?_ ?_)) | ((with_reducible refine bG ?_); first | refine ay (hc := (aA x hwl)) (h := ?_) | refine ay (hc := (bM e.kind 1 6)) (h := ?_)) | ((with_reducible refine aH ?_); refine ss (XR @GCell.el (XR hval0 hin)) ?_) | ((with_reducible refine bJ ?_); refine sx (XR @GCell.el (XR hval0 hin)) ?_) | refine nv ?_ | (refine rD ?_; intro K hK) | exact aZ | exact aI)
    exact aS ⟨⟨2, _, rfl, rfl, ⟨_, rfl, rfl, rfl, Or.inr (GCell.dK _)⟩, trivial⟩, ⟨_, rfl, rfl, trivial⟩⟩
  | true =>
  have hlen := kJ hval0
  have hwc : e.cell.toD.wf := hew.2.2.1
  have h6 : e.kind = 1 ∨ e.kind = 2 ∨ e.kind = 3 ∨ e.kind = 4 ∨ e.kind = 5 ∨ e.kind = 6 := by
    unfold inR at hin
    simp at hin
    omega
  rcases h6 with hk0 | hk0 | hk0 | hk0 | hk0 | hk0
  · exact D9 x e hn hwl hew hval0 hin hk0
  · exact D8 x e hn hwl hew hval0 hin hk0
  · exact D7 x e hn hwl hew hval0 hin hk0
  · exact D6 x e hn hwl hew hval0 hin hk0
  · exact D5 x e hn hwl hew hval0 hin hk0
  · exact DZ x e hn hwl hew hval0 hin hk0
def vS : IC := (.seq (.reg false [⟨(some 2), none, .box (.t 0)⟩, ⟨(some 3), none, .box (.t 1)⟩, ⟨(some 4), none, .alloc [(.slice none 0 0)]⟩, ⟨(some 5), none, .mov (.k (.int .i64 0))⟩]) (.seq (.seq (.reg false [⟨(some 8), none, .load 1 true (.t 2)⟩, ⟨(some 9), none, .call 9 [(.t 8)]⟩, ⟨(some 10), none, .not (.t 9)⟩, ⟨(some 11), none, .mov (.t 10)⟩, ⟨(some 12), (some (11, false)), .fad 0 (.t 3)⟩, ⟨(some 13), (some (11, false)), .load 1 false (.t 12)⟩, ⟨(some 14), (some (11, false)), .call 33 [(.t 13), (.k (.int .i64 1)), (.k (.int .i64 6))]⟩, ⟨(some 15), (some (11, false)), .not (.t 14)⟩, ⟨(some 16), none, .pick (.t 11) (.k (.bool true)) (.t 15)⟩]) (.cond (.t 16) (.seq (.reg false [⟨(some 17), none, .load 1 true (.t 2)⟩, ⟨(some 18), none, .call 39 [(.t 17)]⟩, ⟨none, none, .store 1 (.t 4) (.t 18)⟩, ⟨(some 5), none, .mov (.k (.int .i64 1))⟩]) .ret) .skip)) (.seq (.reg false [⟨(some 20), none, .load 1 true (.t 2)⟩, ⟨(some 21), none, .load 8 true (.t 3)⟩, ⟨(some 22), none, .call 40 [(.t 20), (.t 21)]⟩, ⟨(some 19), none, .mov (.t 22)⟩, ⟨(some 23), none, .ext 0 (.t 19)⟩, ⟨(some 24), none, .ext 1 (.t 19)⟩, ⟨(some 6), none, .alloc [(.slice none 0 0)]⟩, ⟨none, none, .store 1 (.t 6) (.t 23)⟩, ⟨(some 7), none, .mov (.t 24)⟩]) (.seq (.reg false [⟨(some 25), none, .load 1 true (.t 6)⟩, ⟨(some 26), none, .call 39 [(.t 25)]⟩, ⟨(some 27), none, .mov (.t 7)⟩, ⟨none, none, .store 1 (.t 4) (.t 26)⟩, ⟨(some 5), none, .mov (.t 27)⟩]) .ret))))
theorem yR : aF Try.prog (Try.f21.body.getD .skip) = some vS := by kernel_rfl
set_option maxHeartbeats 40000000 in
theorem GX (x : GNb) (e : GEdit) (hn : x.cells.length ≤ 1048576) (hwl : D.wfs (x.cells.map GCell.toD)) (hew : e.toD.wf) : sV Try.prog 21 [x.toD, e.toD] (.tup [(true, [.own 0 0]), (false, [.raw (.int .i64 (app x.cells e).2)])]) [⟨(app x.cells e).1.map GCell.toD, 31, 6, 0, true⟩] := by
  refine Ku (fn := Try.f21) (r := .cell 4 26) (q := .tmp 5) (by kernel_rfl) (by kernel_rfl) (by kernel_rfl) (by kernel_rfl) yR ?_
  change AWP _ _ _ (st0 28 _)
  unfold vS
  refine sS trivial ?_
  cases hval0 : dB x.cells with
  | false =>
    have hA : app x.cells e = (x.cells, 1) := by simp [app, hval0]
    rw [hA]
    repeat' (first | ((with_reducible refine aG ?_); intro K hK) | ((with_reducible refine hK _ ?_); clear hK K) | (with_reducible refine ak ?_ ?_) | ((with_reducible refine gi ?_); first | (refine aB ?_ ?_; rfl) | (refine aC ?_ ?_; (rfl; refine gF ?_))) | ((with_reducible refine aU ?_); first | refine au (hc := (gK x hwl)) (h := ?_) | refine au (hc := (o8 e.kind 1 6)) (h := ?_) | (refine dP (mg x (by omega)) (GCell.el _) ?_ ?_)) | ((with_reducible refine bG ?_); first | refine ay (hc := (gK x hwl)) (h := ?_) | refine ay (hc := (o8 e.kind 1 6)) (h := ?_)) | ((with_reducible refine aH ?_); refine ss (XR @GCell.el hval0) ?_) | refine nv ?_ | exact aZ | exact aI)
    exact aS ⟨[0], by simp, ⟨⟨_, rfl, rfl, Or.inr (GCell.dK _)⟩, trivial⟩, ⟨2, _, rfl, rfl, ⟨rfl, rfl, _, rfl, rfl⟩, trivial⟩, ⟨_, rfl, rfl, trivial⟩⟩
  | true =>
  cases hin : inR e.kind 1 6 with
  | false =>
    have hA : app x.cells e = (x.cells, 1) := by simp [app, hval0, hin]
    rw [hA]
    repeat' (first | ((with_reducible refine aG ?_); intro K hK) | ((with_reducible refine hK _ ?_); clear hK K) | (with_reducible refine ak ?_ ?_) | ((with_reducible refine gi ?_); first | (refine aB ?_ ?_; rfl) | (refine aC ?_ ?_; (rfl; refine gF ?_))) | ((with_reducible refine aU ?_); first | refine au (hc := (gK x hwl)) (h := ?_) | refine au (hc := (o8 e.kind 1 6)) (h := ?_) | (refine dP (mg x (by omega)) (GCell.el _) ?_ ?_)) | ((with_reducible refine bG ?_); first | refine ay (hc := (gK x hwl)) (h := ?_) | refine ay (hc := (o8 e.kind 1 6)) (h := ?_)) | ((with_reducible refine aH ?_); refine ss (XR @GCell.el (XR hval0 hin)) ?_) | refine nv ?_ | exact aZ | exact aI)
    exact aS ⟨[0], by simp, ⟨⟨_, rfl, rfl, Or.inr (GCell.dK _)⟩, trivial⟩, ⟨2, _, rfl, rfl, ⟨rfl, rfl, _, rfl, rfl⟩, trivial⟩, ⟨_, rfl, rfl, trivial⟩⟩
  | true =>
  have hA : app x.cells e = chg x.cells e := by simp [app, hval0, hin]
  rw [hA]
  have hcl := Oy x.cells e
  repeat' (first | ((with_reducible refine aG ?_); intro K hK) | ((with_reducible refine hK _ ?_); clear hK K) | (with_reducible refine ak ?_ ?_) | ((with_reducible refine gi ?_); first | (refine aB ?_ ?_; rfl) | (refine aC ?_ ?_; (rfl; refine gF ?_))) | ((with_reducible refine aU ?_); first | refine au (hc := (gK x hwl)) (h := ?_) | refine au (hc := (o8 e.kind 1 6)) (h := ?_) | (refine VN (EP x e hval0 hin hwl hew) rfl ?_ ?_) | (refine dP (mg ⟨(chg x.cells e).1⟩ (by simp only; omega)) (GCell.el _) ?_ ?_)) | ((with_reducible refine bG ?_); first | refine ay (hc := (gK x hwl)) (h := ?_) | refine ay (hc := (o8 e.kind 1 6)) (h := ?_) | (refine Um (EP x e hval0 hin hwl hew) rfl ?_ ?_)) | ((with_reducible refine aH ?_); refine ss (XR @GCell.el (XR hval0 hin)) ?_) | refine nv ?_ | exact aZ | exact aI)
  exact aS ⟨[0], by simp, ⟨⟨_, rfl, rfl, Or.inr (GCell.dK _)⟩, trivial⟩, ⟨2, _, rfl, rfl, ⟨rfl, rfl, _, rfl, rfl⟩, trivial⟩, ⟨_, rfl, rfl, trivial⟩⟩
theorem nX (x : GNb) (e : GEdit) (hn : x.cells.length ≤ 1048576) (hwl : D.wfs (x.cells.map GCell.toD)) (hew : e.toD.wf) : aK Try.prog 21 [x.toD, e.toD] (.tup [(true, [.sl true ((app x.cells e).1.map GCell.toD)]), (false, [.raw (.int .i64 (app x.cells e).2)])]) :=
  (GX x e hn hwl hew).to (GCell.dK _)
end Go.Proofs.Ytnongnchpplacaa

