/-
  A valid notebook stays valid, a rejected edit changes nothing, and an edit changes at most the cell it names.
-/
import Derived.Test.YtnongnchpplacaaJZ
import Derived.Test.YtnongnchpplacaaJS
import Derived.Test.YtnongnchpplacaaJR
namespace Go.Proofs.Ytnongnchpplacaa
open Go.RowKit
set_option linter.unusedSimpArgs false
set_option linter.unusedVariables false
def yP : IC := (.seq (.reg false [⟨(some 2), none, .mov (.k (.bool false))⟩]) (.seq (.seq (.reg false [⟨(some 12), none, .mov (.t 0)⟩, ⟨(some 13), none, .call 7 [(.t 12)]⟩]) (.cond (.t 13) (.seq (.reg false [⟨(some 2), none, .mov (.k (.bool true))⟩]) .ret) .skip)) (.seq (.reg false [⟨(some 15), none, .mov (.t 0)⟩, ⟨(some 16), none, .call 22 [(.t 15)]⟩, ⟨(some 14), none, .mov (.t 16)⟩, ⟨(some 17), none, .ext 0 (.t 14)⟩, ⟨(some 18), none, .ext 1 (.t 14)⟩, ⟨(some 3), none, .alloc [(.slice none 0 0)]⟩, ⟨(some 4), none, .alloc [(.int .i64 0), (.int .i64 0), (.int .i64 0), (.int .i64 0), (.int .i64 0), (.string ⟨#[]⟩), (.string ⟨#[]⟩), (.int .i64 0)]⟩, ⟨none, none, .store 1 (.t 3) (.t 17)⟩, ⟨none, none, .store 8 (.t 4) (.t 18)⟩]) (.seq (.reg false [⟨(some 20), none, .load 1 true (.t 3)⟩, ⟨(some 21), none, .load 8 true (.t 4)⟩, ⟨(some 22), none, .call 21 [(.t 20), (.t 21)]⟩, ⟨(some 19), none, .mov (.t 22)⟩, ⟨(some 23), none, .ext 0 (.t 19)⟩, ⟨(some 24), none, .ext 1 (.t 19)⟩, ⟨(some 5), none, .alloc [(.slice none 0 0)]⟩, ⟨none, none, .store 1 (.t 5) (.t 23)⟩, ⟨(some 6), none, .mov (.t 24)⟩]) (.seq (.reg false [⟨(some 26), none, .load 1 true (.t 3)⟩, ⟨(some 27), none, .load 8 true (.t 4)⟩, ⟨(some 28), none, .call 23 [(.t 26), (.t 27)]⟩, ⟨(some 25), none, .mov (.t 28)⟩, ⟨(some 29), none, .ext 0 (.t 25)⟩, ⟨(some 30), none, .ext 1 (.t 25)⟩, ⟨(some 7), none, .alloc [(.slice none 0 0)]⟩, ⟨none, none, .store 1 (.t 7) (.t 29)⟩, ⟨(some 8), none, .mov (.t 30)⟩]) (.seq (.seq (.reg false [⟨(some 31), none, .mov (.t 6)⟩, ⟨(some 32), none, .mov (.t 8)⟩, ⟨(some 33), none, .bin .neq (.t 31) (.t 32)⟩, ⟨(some 34), none, .mov (.t 33)⟩, ⟨(some 35), (some (34, false)), .load 1 true (.t 5)⟩, ⟨(some 36), (some (34, false)), .load 1 true (.t 7)⟩, ⟨(some 37), (some (34, false)), .call 16 [(.t 35), (.t 36)]⟩, ⟨(some 38), (some (34, false)), .not (.t 37)⟩, ⟨(some 39), none, .pick (.t 34) (.k (.bool true)) (.t 38)⟩]) (.cond (.t 39) (.seq (.reg false [⟨(some 2), none, .mov (.k (.bool false))⟩]) .ret) .skip)) (.seq (.seq (.reg false [⟨(some 40), none, .mov (.t 6)⟩, ⟨(some 41), none, .bin .neq (.t 40) (.k (.int .i64 0))⟩]) (.cond (.t 41) (.seq (.reg false [⟨(some 42), none, .load 1 true (.t 5)⟩, ⟨(some 43), none, .load 1 true (.t 3)⟩, ⟨(some 44), none, .call 16 [(.t 42), (.t 43)]⟩, ⟨(some 2), none, .mov (.t 44)⟩]) .ret) .skip)) (.seq (.seq (.reg false [⟨(some 45), none, .load 1 true (.t 5)⟩, ⟨(some 46), none, .call 10 [(.t 45)]⟩, ⟨(some 47), none, .not (.t 46)⟩]) (.cond (.t 47) (.seq (.reg false [⟨(some 2), none, .mov (.k (.bool false))⟩]) .ret) .skip)) (.seq (.seq (.reg false [⟨(some 9), none, .mov (.k (.int .i64 0))⟩]) (.block 0 (.loop (.seq (.seq (.reg false [⟨(some 48), none, .mov (.t 9)⟩, ⟨(some 49), none, .fad 0 (.t 3)⟩, ⟨(some 50), none, .load 1 false (.t 49)⟩, ⟨(some 51), none, .len false (.t 50)⟩, ⟨(some 52), none, .bin .lss (.t 48) (.t 51)⟩]) (.cond (.t 52) .skip (.exit 0))) (.seq (.block 1 (.seq (.reg false [⟨(some 55), none, .fad 0 (.t 3)⟩, ⟨(some 56), none, .load 1 false (.t 55)⟩, ⟨(some 57), none, .mov (.t 9)⟩, ⟨(some 58), none, .iad 6 (.t 56) (.t 57)⟩, ⟨(some 59), none, .load 6 true (.t 58)⟩, ⟨(some 10), none, .alloc [(.int .i64 0), (.int .i64 0), (.int .i64 0), (.string ⟨#[]⟩), (.string ⟨#[]⟩), (.int .i64 0)]⟩, ⟨none, none, .store 6 (.t 10) (.t 59)⟩]) (.seq (.reg false [⟨(some 60), none, .load 1 true (.t 5)⟩, ⟨(some 61), none, .fad 0 (.t 10)⟩, ⟨(some 62), none, .load 1 false (.t 61)⟩, ⟨(some 63), none, .call 24 [(.t 60), (.t 62)]⟩, ⟨(some 11), none, .mov (.t 63)⟩]) (.seq (.reg true [⟨(some 64), none, .fad 0 (.t 10)⟩, ⟨(some 65), none, .load 1 false (.t 64)⟩, ⟨(some 66), none, .fad 2 (.t 4)⟩, ⟨(some 67), none, .fad 0 (.t 66)⟩, ⟨(some 68), none, .load 1 false (.t 67)⟩, ⟨(some 69), none, .bin .neq (.t 65) (.t 68)⟩, ⟨(some 70), none, .mov (.t 69)⟩, ⟨(some 71), (some (70, true)), .mov (.t 11)⟩, ⟨(some 72), (some (70, true)), .bin .lss (.t 71) (.k (.int .i64 0))⟩, ⟨(some 73), (some (70, true)), .mov (.t 72)⟩, ⟨(some 74), (some (73, false)), .fad 0 (.t 5)⟩, ⟨(some 75), (some (73, false)), .load 1 false (.t 74)⟩, ⟨(some 76), (some (73, false)), .mov (.t 11)⟩, ⟨(some 77), (some (73, false)), .iad 6 (.t 75) (.t 76)⟩, ⟨(some 78), (some (73, false)), .load 6 true (.t 77)⟩, ⟨(some 79), (some (73, false)), .load 6 true (.t 10)⟩, ⟨(some 80), (some (73, false)), .beqS true [(.int .i64 0), (.int .i64 0), (.int .i64 0), (.string ⟨#[]⟩), (.string ⟨#[]⟩), (.int .i64 0)] (.t 78) (.t 79)⟩, ⟨(some 81), (some (70, true)), .pick (.t 73) (.k (.bool true)) (.t 80)⟩, ⟨(some 82), none, .pick (.t 70) (.t 81) (.k (.bool false))⟩]) (.cond (.t 82) (.seq (.reg false [⟨(some 2), none, .mov (.k (.bool false))⟩]) .ret) .skip))))) (.reg false [⟨(some 53), none, .mov (.t 9)⟩, ⟨(some 54), none, .bin .add (.t 53) (.k (.int .i64 1))⟩, ⟨(some 9), none, .mov (.t 54)⟩])))))) (.seq (.reg false [⟨(some 2), none, .mov (.k (.bool true))⟩]) .ret))))))))))
theorem xE : aF Try.prog (Try.f5.body.getD .skip) = some yP := by kernel_rfl
set_option maxRecDepth 8000 in
set_option maxHeartbeats 32000000 in
theorem Gz (l : List UInt8) (hl : l.length ≤ 1048576) : aK Try.prog 5 [.sl (l.map lu8)] (.c false [.raw (.bool (true))]) := by
  refine fZ (fn := Try.f5) (t := 2) (by kernel_rfl) (by kernel_rfl) (by kernel_rfl) xE ?_
  unfold yP
  change AWP _ _ _ (st0 83 _)
  refine sS tdX ?_
  have hB := GN l
  rw [decide_eq_false (by omega : ¬ (l.length : Int) > 1048576)] at hB
  repeat' (first | ((with_reducible refine hK _ ?_); clear hK K) | (with_reducible refine ak ?_ ?_) | ((with_reducible refine gi ?_); first | (refine aB ?_ ?_; rfl) | (refine aC ?_ ?_; (rfl; refine gF ?_)) | ((with_reducible refine gS rfl ?_ ?_) <;> (intro hb hb'; first | (exfalso; omega) | skip))) | ((with_reducible refine gxi ?_); first | (refine aO ?_ ?_; rfl) | (refine aP ?_ ?_; (rfl; refine gxF ?_)) | ((with_reducible refine gxS rfl ?_ ?_) <;> (intro hb hb'; first | (exfalso; omega) | skip))) | ((with_reducible refine aU ?_); first | refine au (hc := hB) (h := ?_) | (refine iw (h := (J6 l hl)) (hK := ?_); rintro _ _ ⟨cs, e, hcs, hall, hE, rfl, rfl⟩)) | ((with_reducible refine aH ?_); refine ss (XR tdC @gQ) ?_) | ((with_reducible refine bJ ?_); refine sx (XR tdC @gQ) ?_) | refine nv ?_ | (refine rD ?_; intro K hK) | (with_reducible (refine cS rfl ?_ ?_) <;> (intro hb hb'; first | (exfalso; omega) | skip)) | (exact GCell.el _) | exact aZ | exact aI)
  have hwl := rO hall
  have hew := J5 hE
  have cA := nX ⟨cs⟩ e (by simp only; omega) hwl hew
  have cW := DY ⟨cs⟩ e (by simp only; omega) hwl hew
  have hAc := Fa hall hE
  have hAl : (app cs e).1.length ≤ 1000 := by have := KE cs e; omega
  simp only at cA cW
  have eq1 := Af ⟨(app cs e).1⟩ ⟨(app cs e).1⟩ (by simp only; omega)
  simp only [decide_true] at eq1
  have hnn : ((app cs e).2 != (app cs e).2) = false := by simp
  by_cases h0 : (app cs e).2 = 0
  case neg =>
    have hno := Xd h0
    have hq : ((app cs e).2 != 0) = true := by simpa using h0
    rw [hno] at cA cW eq1
    generalize (app cs e).2 = c at cA cW hq hnn
    repeat' (first | ((with_reducible refine hK _ ?_); clear hK K) | (with_reducible refine ak ?_ ?_) | ((with_reducible refine gi ?_); first | (refine aB ?_ ?_; rfl) | (refine aC ?_ ?_; (rfl; refine gF ?_)) | ((with_reducible refine gS rfl ?_ ?_) <;> (intro hb hb'; first | (exfalso; omega) | skip))) | ((with_reducible refine gxi ?_); first | (refine aO ?_ ?_; rfl) | (refine aP ?_ ?_; (rfl; refine gxF ?_)) | ((with_reducible refine gxS rfl ?_ ?_) <;> (intro hb hb'; first | (exfalso; omega) | skip))) | ((with_reducible refine aU ?_); first | refine au (hc := cA) (h := ?_) | refine au (hc := cW) (h := ?_) | refine au (hc := eq1) (h := ?_)) | ((with_reducible refine bG ?_); first | refine ay (hc := cA) (h := ?_) | refine ay (hc := cW) (h := ?_) | refine ay (hc := eq1) (h := ?_)) | ((with_reducible refine aH ?_); refine ss (XR tdC (XR @gQ (XR hq hnn))) ?_) | ((with_reducible refine bJ ?_); refine sx (XR tdC (XR @gQ (XR hq hnn))) ?_) | refine nv ?_ | (refine rD ?_; intro K hK) | (with_reducible (refine cS rfl ?_ ?_) <;> (intro hb hb'; first | (exfalso; omega) | skip)) | (exact GCell.el _) | exact aZ | exact aI)
    exact aS ⟨_, rfl, ⟨rfl, trivial⟩⟩
  obtain ⟨hv, hm⟩ := WZ h0
  have hq : ((app cs e).2 != 0) = false := by simp [h0]
  have cV := aA ⟨(app cs e).1⟩ (rO hAc)
  have cX := fun id => cZ ⟨(app cs e).1⟩ id
  simp only [hv] at cV
  simp only at cX
  generalize (app cs e).1 = R at *
  generalize (app cs e).2 = c at *
  repeat' (first | ((with_reducible refine hK _ ?_); clear hK K) | (with_reducible refine ak ?_ ?_) | ((with_reducible refine gi ?_); first | (refine aB ?_ ?_; rfl) | (refine aC ?_ ?_; (rfl; refine gF ?_)) | ((with_reducible refine gS rfl ?_ ?_) <;> (intro hb hb'; first | (exfalso; omega) | skip))) | ((with_reducible refine gxi ?_); first | (refine aO ?_ ?_; rfl) | (refine aP ?_ ?_; (rfl; refine gxF ?_)) | ((with_reducible refine gxS rfl ?_ ?_) <;> (intro hb hb'; first | (exfalso; omega) | skip))) | ((with_reducible refine aU ?_); first | refine au (hc := cA) (h := ?_) | refine au (hc := cW) (h := ?_) | refine au (hc := eq1) (h := ?_) | refine au (hc := cV) (h := ?_)) | ((with_reducible refine bG ?_); first | refine ay (hc := cA) (h := ?_) | refine ay (hc := cW) (h := ?_) | refine ay (hc := eq1) (h := ?_) | refine ay (hc := cV) (h := ?_)) | ((with_reducible refine aH ?_); refine ss (XR tdC (XR @gQ (XR hq hnn))) ?_) | ((with_reducible refine bJ ?_); refine sx (XR tdC (XR @gQ (XR hq hnn))) ?_) | refine nv ?_ | (refine rD ?_; intro K hK) | (with_reducible (refine cS rfl ?_ ?_) <;> (intro hb hb'; first | (exfalso; omega) | skip)) | (exact GCell.el _) | exact aZ | exact aI)
  refine kQ (X := Nat) (fun z => [.d, .d, .d, .k, .k, .k, .d, .d, .d, .v (.c false [.raw (.int .i64 (z : Nat))]), .d, .d, .d, .d, .d, .d, .d, .d, .d, .d, .d, .d, .d, .d, .d, .d, .d, .d, .d, .d, .d, .d, .d, .d, .d, .d, .d, .d, .d, .d, .d, .d, .d, .d, .d, .d, .d, .d, .d, .d, .d, .d, .d, .d, .d, .d, .d, .d, .d, .d, .d, .d, .d, .d, .d, .d, .d, .d, .d, .d, .d, .d, .d, .d, .d, .d, .d, .d, .d, .d, .d, .d, .d]) (fun _ => [⟨cs.map GCell.toD, 31, 6, 0, ⟨true, true⟩⟩]) (fun _ bs => bs) (fun z => z ≤ cs.length) (fun z => cs.length - z) 0 (Nat.zero_le _) ?_ ?_
  · simp [gu, je, gX, gZ, AV.fits, AC.fits, FB, fF]
  rintro z hz
  simp only [FB, fF]
  have hw1 : IntKind.i64.wrap ((z : Int) + 1) = ((z + 1 : Nat) : Int) := fE (by omega)
  by_cases hlt : z < cs.length
  · have hT : decide ((z : Int) < (cs.length : Int)) = true := decide_eq_true (by omega)
    have hg : (cs.map GCell.toD)[z]? = some cs[z].toD := by simp [hlt]
    have hmz := hm cs[z] (List.getElem_mem hlt)
    generalize cs[z] = x at *
    have cXx := cX x.id
    by_cases hid : x.id = e.cell.id
    · have hn : (x.id != e.cell.id) = false := by simp [hid]
      generalize bD R x.id = q at cXx
      repeat' (first | ((with_reducible refine hK _ ?_); clear hK K) | (with_reducible refine ak ?_ ?_) | ((with_reducible refine gi ?_); first | (refine aB ?_ ?_; rfl) | (refine aC ?_ ?_; (rfl; refine gF ?_)) | ((with_reducible refine gS rfl ?_ ?_) <;> (intro hb hb'; first | (exfalso; omega) | skip))) | ((with_reducible refine gxi ?_); first | (refine aO ?_ ?_; rfl) | (refine aP ?_ ?_; (rfl; refine gxF ?_)) | ((with_reducible refine gxS rfl ?_ ?_) <;> (intro hb hb'; first | (exfalso; omega) | skip))) | ((with_reducible refine aU ?_); first | refine au (hc := cXx) (h := ?_)) | ((with_reducible refine bG ?_); first | refine ay (hc := cXx) (h := ?_)) | ((with_reducible refine aH ?_); refine ss (XR tdC (XR @gQ (XR hT (XR hw1 (XR hg (XR hn hlt)))))) ?_) | ((with_reducible refine bJ ?_); refine sx (XR tdC (XR @gQ (XR hT (XR hw1 (XR hg (XR hn hlt)))))) ?_) | refine nv ?_ | (refine rD ?_; intro K hK) | (with_reducible (refine cS rfl ?_ ?_) <;> (intro hb hb'; first | (exfalso; omega) | skip)) | (exact GCell.el _) | exact aZ | exact aI)
      refine iZ (z + 1) ?_ (by omega) (by omega)
      simp [gu, je, gX, gZ, AV.fits, AC.fits, FB, fF]
    · have hn : (x.id != e.cell.id) = true := by simp [hid]
      obtain ⟨k, hk, h2, h3⟩ := hmz hid
      rw [h2] at cXx
      have hk0 : decide ((k : Int) < 0) = false := decide_eq_false (by omega)
      have hR : idx (R.map GCell.toD) (some (k : Int)) = some x.toD := by
        rw [xq, List.getElem?_map, h3]
        rfl
      repeat' (first | ((with_reducible refine hK _ ?_); clear hK K) | (with_reducible refine ak ?_ ?_) | ((with_reducible refine gi ?_); first | (refine aB ?_ ?_; rfl) | (refine aC ?_ ?_; (rfl; refine gF ?_)) | ((with_reducible refine gS rfl ?_ ?_) <;> (intro hb hb'; first | (exfalso; omega) | skip))) | ((with_reducible refine gxi ?_); first | (refine aO ?_ ?_; rfl) | (refine aP ?_ ?_; (rfl; refine gxF ?_)) | ((with_reducible refine gxS rfl ?_ ?_) <;> (intro hb hb'; first | (exfalso; omega) | skip))) | ((with_reducible refine aU ?_); first | refine au (hc := cXx) (h := ?_)) | ((with_reducible refine bG ?_); first | refine ay (hc := cXx) (h := ?_)) | ((with_reducible refine aH ?_); refine ss (XR tdC (XR @gQ (XR hT (XR hw1 (XR hg (XR hn (XR hlt (XR hk0 hR)))))))) ?_) | ((with_reducible refine bJ ?_); refine sx (XR tdC (XR @gQ (XR hT (XR hw1 (XR hg (XR hn (XR hlt (XR hk0 hR)))))))) ?_) | refine nv ?_ | (refine rD ?_; intro K hK) | (with_reducible (refine cS rfl ?_ ?_) <;> (intro hb hb'; first | (exfalso; omega) | skip)) | (exact GCell.el _) | exact aZ | exact aI)
      refine iZ (z + 1) ?_ (by omega) (by omega)
      simp [gu, je, gX, gZ, AV.fits, AC.fits, FB, fF]
  · have hT : decide ((z : Int) < (cs.length : Int)) = false := decide_eq_false (by omega)
    repeat' (first | ((with_reducible refine hK _ ?_); clear hK K) | (with_reducible refine ak ?_ ?_) | ((with_reducible refine gi ?_); first | (refine aB ?_ ?_; rfl) | (refine aC ?_ ?_; (rfl; refine gF ?_)) | ((with_reducible refine gS rfl ?_ ?_) <;> (intro hb hb'; first | (exfalso; omega) | skip))) | ((with_reducible refine gxi ?_); first | (refine aO ?_ ?_; rfl) | (refine aP ?_ ?_; (rfl; refine gxF ?_)) | ((with_reducible refine gxS rfl ?_ ?_) <;> (intro hb hb'; first | (exfalso; omega) | skip))) | ((with_reducible refine aH ?_); refine ss (XR tdC (XR @gQ hT)) ?_) | ((with_reducible refine bJ ?_); refine sx (XR tdC (XR @gQ hT)) ?_) | refine nv ?_ | (refine rD ?_; intro K hK) | (with_reducible (refine cS rfl ?_ ?_) <;> (intro hb hb'; first | (exfalso; omega) | skip)) | (exact GCell.el _) | exact aZ | exact aI)
    exact aS ⟨_, rfl, ⟨rfl, trivial⟩⟩
set_option maxRecDepth 8000 in
set_option maxHeartbeats 8000000 in
theorem LU (l : List UInt8) (hl : ¬ l.length ≤ 1048576) : aK Try.prog 5 [.sl (l.map lu8)] (.c false [.raw (.bool (true))]) := by
  refine fZ (fn := Try.f5) (t := 2) (by kernel_rfl) (by kernel_rfl) (by kernel_rfl) xE ?_
  unfold yP
  change AWP _ _ _ (st0 83 _)
  refine sS tdX ?_
  have hB := GN l
  rw [decide_eq_true (by omega : (l.length : Int) > 1048576)] at hB
  repeat' (first | ((with_reducible refine hK _ ?_); clear hK K) | (with_reducible refine ak ?_ ?_) | ((with_reducible refine gi ?_); first | (refine aB ?_ ?_; rfl) | (refine aC ?_ ?_; (rfl; refine gF ?_)) | ((with_reducible refine gS rfl ?_ ?_) <;> (intro hb hb'; first | (exfalso; omega) | skip))) | ((with_reducible refine gxi ?_); first | (refine aO ?_ ?_; rfl) | (refine aP ?_ ?_; (rfl; refine gxF ?_)) | ((with_reducible refine gxS rfl ?_ ?_) <;> (intro hb hb'; first | (exfalso; omega) | skip))) | ((with_reducible refine aU ?_); first | refine au (hc := hB) (h := ?_)) | ((with_reducible refine aH ?_); refine ss (XR tdC @gQ) ?_) | ((with_reducible refine bJ ?_); refine sx (XR tdC @gQ) ?_) | refine nv ?_ | (refine rD ?_; intro K hK) | (with_reducible (refine cS rfl ?_ ?_) <;> (intro hb hb'; first | (exfalso; omega) | skip)) | (exact GCell.el _) | exact aZ | exact aI)
  exact aS ⟨_, rfl, ⟨rfl, trivial⟩⟩
theorem Gg (l : List UInt8) (fp : List Nat) (v : Value) (w : World) (h : Sl w (l.map lu8) fp v) : Calls Try.prog 5 #[v] w (KP w) := by
  have hC : aK Try.prog 5 [.sl (l.map lu8)] (.c false [.raw (.bool (true))]) := by
    by_cases hl : l.length ≤ 1048576
    · exact Gz l hl
    · exact LU l hl
  refine (Si hC (vs := [v]) ⟨Ig h, trivial⟩).mono ?_
  rintro e w' ⟨h1, h2⟩
  exact ⟨h1, h2⟩
open Go.ChangeShapes Go.WideShapes Go.ChangeAt
set_option maxRecDepth 100000 in
theorem zW (os : Os) (started : os.Started) (H : Type) (enc : TypeId × Value → H) :
    ReturnsInHanded {} Try.checked os 5 .any (Rows.fnEditedSpec.pre6 enc Try.prog Try.f5 Rows.fnEditedRow.domain false) (Rows.fnEditedSpec.post enc Try.prog Try.f5 false true false false) := by
  refine returnsInHanded_of_change (C := Try.checked) Xu started (by kernel_rfl) Try.func5
    (ChangeSpec.witness6 (enc := enc) (C := Try.checked) false ⟨#[], #[.slice none 0 0], []⟩ 8 (by kernel_rfl) (by kernel_rfl) (by kernel_rfl) (by kernel_rfl)) ?_
  intro W base args ds gs before hval0 hW hcnd _
  have hval : ∀ (j : Nat) t v, Try.f5.params[j]? = some t → args[j]? = some v → Value.okWide Try.prog W .any base t v := hval0
  have hW' := hW
  obtain ⟨p, q, hA0, hV, rfl, hfz, hnd⟩ := hW
  have hA : DataW.TrodAll enc Try.prog W 0 (fun _ => true) true Try.f5.params.toList args.toList ds p := hA0
  rw [Try.params5] at hA hval
  obtain ⟨v0, vs0, d0, ds0, p0, q0, ha0, rfl, rfl, h0, r0⟩ := trodAll_cons hA
  obtain ⟨rfl, rfl, rfl⟩ := trodAll_nil r0
  obtain rfl : args = #[v0] := by cases args; simp_all
  obtain ⟨rfl, rfl⟩ := trodVars_none hV
  obtain ⟨l0, fx0, hx0, wx0⟩ := E8 Try.underlying22 (hval 0 22 v0 rfl rfl) (fun n => QS n) h0
  clear hA0 hval0
  have hlt : ∀ z ∈ p0 ++ [], z.block < W.heap.size := fun z hz => hW'.lt z (by simpa using hz)
  refine (Gg l0 fx0 _ W hx0).mono fun e W' ⟨he, hb⟩ => ?_
  subst he
  exact ⟨_, rfl, vM (pa := p0 ++ []) (pv := []) hW' (fun _ _ _ => trodAll_mk1 (shut_bool Try.underlying4 _))
    (fun sp hsp => ⟨_, _, WideElems.Trod_stays IK (by kernel_rfl) (of_decide_eq_true (by kernel_rfl)) h0 (fun z hz => hb.same (hlt z (List.mem_append_left _ hz))) (fun z hz => hsp z (by simp [hz])), rfl, rfl⟩) (fun _ _ => rfl) (by simp) hb (ok_one (by kernel_rfl) rfl (okWide_bool_mk Try.underlying4 _))⟩
theorem proved_FnEdited : Rows.FnEditedSaid :=
  OpenClaim.holds_of_wide 5 Try.f5 rfl rfl rfl rfl rfl rfl rfl ⟨rfl, rfl, rfl, rfl, rfl⟩ rfl rfl rfl rfl rfl (by kernel_rfl) Try.func5 (by kernel_rfl)
    (of_decide_eq_true (by kernel_rfl)) (by unfold Func.isWrapper; first | (rw [if_pos (by decide +kernel)]; kernel_rfl) | (rw [if_neg (by decide +kernel)]; exact ⟨rfl, rfl⟩))
    (fun os started H enc _ => zW os started H enc)
end Go.Proofs.Ytnongnchpplacaa
