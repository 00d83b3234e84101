/-
  Marks of a part that is handed on by value.
-/
import Derived.Test.YtncbhiehgkohjaaMarks
namespace Go.Proofs.Ytncbhiehgkohjaa
open Go.RowKit
set_option linter.unusedSimpArgs false
set_option linter.unusedVariables false
theorem GPart.amk_agg {w : World} {x : GPart} {k k1 k2 : Int} {f1 f2 : List Nat} {c1 c2 : List Value} (e1 : k1 = k) (e2 : k2 = k + x.expr.toD.acnt) (h1 : R w (x.expr.toD.amk k1) f1 c1) (h2 : R w (x.value.toD.amk k2) f2 c2) :
    R w (x.toD.amk k) (f1 ++ f2) ([.int .i64 x.kind, .string x.name] ++ (c1 ++ (c2 ++ [.int .i64 x.pos]))) := by
  subst e1 e2
  rw [GPart.toD_eq, D.amk, R_agg]
  simp only [D.amks, D.amk, li, ls, D.acnt, Int.ofNat_zero, Int.add_zero, Int.natCast_zero]
  refine ⟨[], f1 ++ f2, [.int .i64 x.kind], _, rfl, rfl, ⟨rfl, rfl⟩, [], f1 ++ f2, [.string x.name], _, rfl, rfl, ⟨rfl, rfl⟩, f1, f2, c1, c2 ++ [.int .i64 x.pos], rfl, rfl, h1, f2, [], c2, [.int .i64 x.pos], by simp, rfl, h2, [], [], [.int .i64 x.pos], [], rfl, rfl, ⟨rfl, rfl⟩, rfl, rfl⟩
set_option maxHeartbeats 4000000 in
theorem GPart.mark (x : GPart) : AMarkSaid Try.prog 46 x.toD := by
  intro w fp cs k hR hF hk0 hk1
  have hae := GExpr.acnt_eq x.expr
  have hav := GVal.acnt_eq x.value
  have hap := GPart.acnt_eq x
  have hk2 : k + ((x.expr.toD.acnt : Nat) : Int) + ((x.value.toD.acnt : Nat) : Int) ≤ 4611686018427387904 := by omega
  obtain ⟨v0, v1, v2, v3, g0, g1, g2, g3, rfl, rfl, hV0, hV1, hV2, hV3⟩ := GPart.opened.1 hR
  clear hR hk1
  obtain ⟨A0, c0, rfl, hqa, hqb⟩ := hV0.formT
  clear hqa hqb
  obtain ⟨A1, c1, rfl, hqa, hqb⟩ := hV1.formT
  clear hqa hqb
  obtain ⟨A2, c2, rfl, hqa, hqb⟩ := hV2.formT
  clear hqa hqb
  obtain ⟨A3, c3, rfl, hqa, hqb⟩ := hV3.formT
  clear hqa hqb
  have hfn := hF.1
  rw [List.nodup_append] at hfn
  obtain ⟨n1, n2, n3⟩ := hfn
  have hdj : ∀ y ∈ g1 ++ (g2 ++ g3), y ∉ g0 := fun y hy hy' => n3 y hy' y hy rfl
  have hdj2 : ∀ y ∈ g0, y ∉ g1 ++ (g2 ++ g3) := fun y hy hy' => n3 y hy y hy' rfl
  have E0 := (GExpr.opened (x := x.expr)).2 ⟨_, _, rfl, rfl, hV0⟩
  have V0 := (GVal.opened (x := x.value)).2 ⟨_, _, _, _, _, _, rfl, rfl, hV1, hV2, hV3⟩
  clear hV0 hV1 hV2 hV3
  have FE : Free w 0 g0 := ⟨n1, fun b hb => hF.2 b (List.mem_append_left _ hb)⟩
  have FV : Free w 0 (g1 ++ (g2 ++ g3)) := ⟨n2, fun b hb => hF.2 b (List.mem_append_right _ hb)⟩
  have ltE := R.lt E0
  have ltV := R.lt V0
  have hsE : w.heap.size ∉ g0 := fun hy => Nat.lt_irrefl _ (ltE _ hy)
  have hsV : w.heap.size ∉ g1 ++ (g2 ++ g3) := fun hy => Nat.lt_irrefl _ (ltV _ hy)
  clear n1 n2 n3 hF
  have hae' := Lib.hid hae
  have hav' := Lib.hid hav
  have hap' := Lib.hid hap
  clear hae hav hap
  go_enter Try.func46, Try.ntmps46
  go_wp2_with fail
  refine (x.expr.mark _ _ _ _ (E0.below ((Below.refl _ _).alloc (Nat.le_refl _) _)) (FE.below ltE ((Below.refl _ _).alloc (Nat.le_refl _) _)) hk0 (by omega)).mono ?_
  rintro e w1 ⟨rfl, hS1, hb1⟩
  have r1 := (Row.new w _ _).touch hb1 hsE
  have T1 : Touch ([] ++ g0) w w1 := (Touch.of_below ((Below.refl _ _).alloc (Nat.le_refl _) _)).trans (hb1.mono fun y hy => List.mem_append_right _ hy)
  have V1 := (V0.below ((Below.refl _ _).alloc (Nat.le_refl _) _)).touch hb1 hdj
  have FV1 := (FV.below ltV ((Below.refl _ _).alloc (Nat.le_refl _) _)).touch (R.lt (V0.below ((Below.refl _ _).alloc (Nat.le_refl _) _))) hb1
  have kk1 := r1.cell
  clear hb1 V0 E0 FE
  go_wp2_with fail
  refine (x.value.mark _ _ _ _ V1 FV1 (by omega) (by omega)).mono ?_
  rintro e w2 ⟨rfl, hS2, hb2⟩
  have T2 : Touch (([] ++ g0) ++ (g1 ++ (g2 ++ g3))) w w2 := (T1.mono fun y hy => List.mem_append_left _ hy).trans (hb2.mono fun y hy => List.mem_append_right _ hy)
  have hS1' := hS1.touch hb2 hdj2
  have r2 := r1.touch hb2 hsV
  have kk2 := r2.cell
  clear hb2 kk1 hS1
  go_wp2_with fail
  go_ret
  have hae := hae'.out
  have hav := hav'.out
  have hap := hap'.out
  exact ⟨ret_int (by omega), GPart.amk_agg rfl rfl hS1' hS2, T2.mono fun y hy => by simpa using hy⟩
end Go.Proofs.Ytncbhiehgkohjaa
