/-
  Texts joined: Draw8 Draw9.
-/
import Derived.Test.YtnongnchpplacaaJW
import Derived.Test.YtnongnchpplacaaJR
namespace Go.Proofs.Ytnongnchpplacaa
open Go.RowKit
set_option linter.unusedSimpArgs false
set_option linter.unusedVariables false
def ny (e : GEdit) : Prop := (-1000000 ≤ e.kind ∧ e.kind ≤ 1000000) ∧ (-1000000 ≤ e.pos ∧ e.pos ≤ 1000000) ∧ fF 5000 e.cell
section
variable {P : Program} {l : List UInt8} {t ty b : Nat} {st : St} {i h : Int} {k a id v kd n : Int} {m c : ByteArray} {post : AV → List Own → List AC → Prop}
theorem Va (h1 : st.fr.getD t .any = .bptr b 0) (h2 : st.boxes[b]? = some [.raw (.int .i64 k), .raw (.int .i64 a), .raw (.int .i64 id), .raw (.int .i64 v), .raw (.int .i64 kd), .raw (.string m), .raw (.string c), .raw (.int .i64 n)]) (h0 : st.boxes[0]? = some (bM l i h)) (hp : eX P (.cell t ty) true 8 = true)
    (hq : ∀ e : GEdit, e = ⟨k, a, ⟨id, v, kd, m, c, n⟩⟩ → post (.c true [.raw (.int .i64 e.kind), .raw (.int .i64 e.pos), .raw (.int .i64 e.cell.id), .raw (.int .i64 e.cell.ver), .raw (.int .i64 e.cell.kind), .raw (.string e.cell.name), .raw (.string e.cell.code), .raw (.int .i64 e.cell.n)]) [] (bM l i h)) : kT (uS P (.cell t ty) post) .ret st :=
  ⟨true, _, [], _, [], hq _ rfl, rfl, h0, rfl, by simp, trivial, hp, b, _, h1, h2, ⟨rfl, rfl, rfl, rfl, rfl, rfl, rfl, rfl, trivial⟩⟩
end
def rC : IC := (.seq (.reg false [⟨(some 85), none, .load 6 true (.t 6)⟩, ⟨(some 86), none, .fad 2 (.t 5)⟩, ⟨none, none, .store 6 (.t 86) (.t 85)⟩]) (.seq (.seq (.reg false [⟨(some 87), none, .fad 0 (.t 5)⟩, ⟨(some 88), none, .load 1 false (.t 87)⟩, ⟨(some 89), none, .bin .eql (.t 88) (.k (.int .i64 5))⟩]) (.cond (.t 89) (.reg false [⟨(some 90), none, .mov (.t 0)⟩, ⟨(some 91), none, .call 49 [(.t 90), (.k (.int .i64 10))]⟩, ⟨(some 92), none, .fad 2 (.t 5)⟩, ⟨(some 93), none, .fad 5 (.t 92)⟩, ⟨none, none, .store 1 (.t 93) (.t 91)⟩]) .skip)) (.seq (.seq (.reg false [⟨(some 94), none, .mov (.t 0)⟩, ⟨(some 95), none, .call 42 [(.t 94), (.k (.int .i64 20))]⟩]) (.cond (.t 95) (.reg false [⟨(some 96), none, .mov (.t 0)⟩, ⟨(some 97), none, .call 49 [(.t 96), (.k (.int .i64 9))]⟩, ⟨(some 98), none, .fad 0 (.t 5)⟩, ⟨none, none, .store 1 (.t 98) (.t 97)⟩]) .skip)) (.seq (.reg false [⟨(some 99), none, .load 8 true (.t 5)⟩, ⟨none, none, .store 8 (.t 4) (.t 99)⟩]) .ret))))
def rE : IC := (.seq (.seq (.reg false [⟨(some 24), none, .fad 0 (.t 5)⟩, ⟨(some 25), none, .load 1 false (.t 24)⟩, ⟨(some 26), none, .bin .eql (.t 25) (.k (.int .i64 1))⟩]) (.cond (.t 26) (.seq (.reg false [⟨(some 27), none, .mov (.t 0)⟩, ⟨(some 28), none, .mov (.t 0)⟩, ⟨(some 29), none, .call 49 [(.t 28), (.k (.int .i64 20))]⟩, ⟨(some 30), none, .bin .add (.k (.int .i64 1)) (.t 29)⟩, ⟨(some 31), none, .call 52 [(.t 27), (.t 30)]⟩, ⟨(some 32), none, .fad 2 (.t 5)⟩, ⟨none, none, .store 6 (.t 32) (.t 31)⟩]) (.seq (.reg false [⟨(some 33), none, .load 8 true (.t 5)⟩, ⟨none, none, .store 8 (.t 4) (.t 33)⟩]) .ret)) .skip)) (.seq (.reg false [⟨(some 34), none, .mov (.t 0)⟩, ⟨(some 35), none, .mov (.t 0)⟩, ⟨(some 36), none, .call 49 [(.t 35), (.k (.int .i64 8))]⟩, ⟨(some 37), none, .bin .add (.k (.int .i64 1)) (.t 36)⟩, ⟨(some 38), none, .call 52 [(.t 34), (.t 37)]⟩, ⟨(some 6), none, .alloc [(.int .i64 0), (.int .i64 0), (.int .i64 0), (.string ⟨#[]⟩), (.string ⟨#[]⟩), (.int .i64 0)]⟩, ⟨none, none, .store 6 (.t 6) (.t 38)⟩]) (.seq (.seq (.reg false [⟨(some 39), none, .fad 0 (.t 3)⟩, ⟨(some 40), none, .load 1 false (.t 39)⟩, ⟨(some 41), none, .len false (.t 40)⟩, ⟨(some 42), none, .bin .gtr (.t 41) (.k (.int .i64 0))⟩, ⟨(some 43), none, .mov (.t 42)⟩, ⟨(some 44), (some (43, true)), .mov (.t 0)⟩, ⟨(some 45), (some (43, true)), .call 42 [(.t 44), (.k (.int .i64 8))]⟩, ⟨(some 46), (some (43, true)), .not (.t 45)⟩, ⟨(some 47), none, .pick (.t 43) (.t 46) (.k (.bool false))⟩]) (.cond (.t 47) (.seq (.regN true [] [⟨(some 48), none, .fad 0 (.t 3)⟩, ⟨(some 49), none, .load 1 false (.t 48)⟩, ⟨(some 50), none, .mov (.t 0)⟩, ⟨(some 51), none, .fad 0 (.t 3)⟩, ⟨(some 52), none, .load 1 false (.t 51)⟩, ⟨(some 53), none, .len false (.t 52)⟩, ⟨(some 54), none, .call 49 [(.t 50), (.t 53)]⟩, ⟨(some 55), none, .iad 6 (.t 49) (.t 54)⟩, ⟨(some 56), none, .load 6 true (.t 55)⟩, ⟨(some 7), none, .alloc [(.int .i64 0), (.int .i64 0), (.int .i64 0), (.string ⟨#[]⟩), (.string ⟨#[]⟩), (.int .i64 0)]⟩, ⟨none, none, .store 6 (.t 7) (.t 56)⟩]) (.seq (.reg false [⟨(some 57), none, .fad 0 (.t 7)⟩, ⟨(some 58), none, .load 1 false (.t 57)⟩, ⟨(some 59), none, .fad 0 (.t 6)⟩, ⟨none, none, .store 1 (.t 59) (.t 58)⟩]) (.seq (.seq (.reg false [⟨(some 60), none, .mov (.t 0)⟩, ⟨(some 61), none, .call 42 [(.t 60), (.k (.int .i64 4))]⟩, ⟨(some 62), none, .not (.t 61)⟩]) (.cond (.t 62) (.reg false [⟨(some 63), none, .fad 3 (.t 7)⟩, ⟨(some 64), none, .load 1 false (.t 63)⟩, ⟨(some 65), none, .fad 3 (.t 6)⟩, ⟨none, none, .store 1 (.t 65) (.t 64)⟩]) .skip)) (.seq (.seq (.reg false [⟨(some 66), none, .fad 2 (.t 7)⟩, ⟨(some 67), none, .load 1 false (.t 66)⟩, ⟨(some 68), none, .bin .eql (.t 67) (.k (.int .i64 4))⟩, ⟨(some 69), none, .mov (.t 68)⟩, ⟨(some 70), (some (69, true)), .mov (.t 0)⟩, ⟨(some 71), (some (69, true)), .call 42 [(.t 70), (.k (.int .i64 6))]⟩, ⟨(some 72), (some (69, true)), .not (.t 71)⟩, ⟨(some 73), none, .pick (.t 69) (.t 72) (.k (.bool false))⟩]) (.cond (.t 73) (.reg false [⟨(some 74), none, .mov (.t 0)⟩, ⟨(some 75), none, .call 59 [(.t 74)]⟩, ⟨(some 76), none, .fad 4 (.t 6)⟩, ⟨none, none, .store 1 (.t 76) (.t 75)⟩]) .skip)) (.seq (.reg false [⟨(some 77), none, .fad 2 (.t 7)⟩, ⟨(some 78), none, .load 1 false (.t 77)⟩, ⟨(some 79), none, .bin .eql (.t 78) (.k (.int .i64 3))⟩, ⟨(some 80), none, .mov (.t 79)⟩, ⟨(some 81), (some (80, true)), .mov (.t 0)⟩, ⟨(some 82), (some (80, true)), .call 42 [(.t 81), (.k (.int .i64 2))]⟩, ⟨(some 83), none, .pick (.t 80) (.t 82) (.k (.bool false))⟩]) (.cond (.t 83) (.reg false [⟨(some 84), none, .fad 0 (.t 5)⟩, ⟨none, none, .store 1 (.t 84) (.k (.int .i64 5))⟩]) .skip)))))) .skip)) rC)))
def Ik : IC := (.seq (.reg false [⟨(some 3), none, .box (.t 1)⟩, ⟨(some 4), none, .alloc [(.int .i64 0), (.int .i64 0), (.int .i64 0), (.int .i64 0), (.int .i64 0), (.string ⟨#[]⟩), (.string ⟨#[]⟩), (.int .i64 0)]⟩]) (.seq (.reg false [⟨(some 8), none, .mov (.t 0)⟩, ⟨(some 9), none, .call 49 [(.t 8), (.k (.int .i64 6))]⟩, ⟨(some 10), none, .bin .add (.k (.int .i64 1)) (.t 9)⟩, ⟨(some 11), none, .mov (.t 0)⟩, ⟨(some 12), none, .call 49 [(.t 11), (.k (.int .i64 10))]⟩, ⟨(some 13), none, .bin .sub (.t 12) (.k (.int .i64 1))⟩, ⟨(some 14), none, .bld [(.int .i64 0), (.int .i64 0), (.int .i64 0), (.int .i64 0), (.int .i64 0), (.string ⟨#[]⟩), (.string ⟨#[]⟩), (.int .i64 0)] [(0, 1, (.t 10)), (1, 1, (.t 13))]⟩, ⟨(some 5), none, .alloc [(.int .i64 0), (.int .i64 0), (.int .i64 0), (.int .i64 0), (.int .i64 0), (.string ⟨#[]⟩), (.string ⟨#[]⟩), (.int .i64 0)]⟩, ⟨none, none, .store 8 (.t 5) (.t 14)⟩]) (.seq (.seq (.reg false [⟨(some 15), none, .fad 0 (.t 3)⟩, ⟨(some 16), none, .load 1 false (.t 15)⟩, ⟨(some 17), none, .len false (.t 16)⟩, ⟨(some 18), none, .bin .lss (.t 17) (.k (.int .i64 2))⟩, ⟨(some 19), none, .mov (.t 18)⟩, ⟨(some 20), (some (19, true)), .mov (.t 0)⟩, ⟨(some 21), (some (19, true)), .call 42 [(.t 20), (.k (.int .i64 2))]⟩, ⟨(some 22), none, .pick (.t 19) (.t 21) (.k (.bool false))⟩]) (.cond (.t 22) (.reg false [⟨(some 23), none, .fad 0 (.t 5)⟩, ⟨none, none, .store 1 (.t 23) (.k (.int .i64 1))⟩]) .skip)) rE)))
theorem Ij : aF Try.prog (Try.f43.body.getD .skip) = some Ik := by kernel_rfl
set_option maxRecDepth 8000 in
set_option maxHeartbeats 16000000 in
theorem Ux (l : List UInt8) (i h k a : Int) (cs : List GCell) (xd xv xk : Int) (xm xc : ByteArray) (xn : Int) (hl : l.length ≤ 1048576) (hi0 : 0 ≤ i) (hi1 : i ≤ l.length) (hk : 0 ≤ k ∧ k ≤ 9) (ha : -1 ≤ a ∧ a ≤ 9) (hx : fF 5000 ⟨xd, xv, xk, xm, xc, xn⟩) :
    eP (0, 1) Try.prog rC (kT (uS Try.prog (.cell 4 38) (fun r os' c' => (∃ e : GEdit, ny e ∧ r = .c true [.raw (.int .i64 e.kind), .raw (.int .i64 e.pos), .raw (.int .i64 e.cell.id), .raw (.int .i64 e.cell.ver), .raw (.int .i64 e.cell.kind), .raw (.string e.cell.name), .raw (.string e.cell.code), .raw (.int .i64 e.cell.n)]) ∧ os' = [] ∧ l7 l c'))) ⟨[.bptr 0 0, .any, .any, .any, .bptr 2 0, .bptr 3 0, .bptr 4 0, .any, .any, .any, .any, .any, .any, .any, .any, .any, .any, .any, .any, .any, .any, .any, .any, .any, .any, .any, .any, .any, .any, .any, .any, .any, .any, .any, .any, .any, .any, .any, .any, .any, .any, .any, .any, .any, .any, .any, .any, .any, .any, .any, .any, .any, .any, .any, .any, .any, .any, .any, .any, .any, .any, .any, .any, .any, .any, .any, .any, .any, .any, .any, .any, .any, .any, .any, .any, .any, .any, .any, .any, .any, .any, .any, .any, .any, .any, .any, .any, .any, .any, .any, .any, .any, .any, .any, .any, .any, .any, .any, .any, .any], [], [bM l i h, [.sl false (cs.map GCell.toD)], [.raw (.int .i64 0), .raw (.int .i64 0), .raw (.int .i64 0), .raw (.int .i64 0), .raw (.int .i64 0), .raw (.string ⟨#[]⟩), .raw (.string ⟨#[]⟩), .raw (.int .i64 0)], [.raw (.int .i64 k), .raw (.int .i64 a), .raw (.int .i64 0), .raw (.int .i64 0), .raw (.int .i64 0), .raw (.string ⟨#[]⟩), .raw (.string ⟨#[]⟩), .raw (.int .i64 0)], [.raw (.int .i64 xd), .raw (.int .i64 xv), .raw (.int .i64 xk), .raw (.string xm), .raw (.string xc), .raw (.int .i64 xn)]]⟩ := by
  unfold rC
  have hw : ∀ z : Int, 0 ≤ z → z < 10 → IntKind.i64.wrap (1 + z) = 1 + z := fun z q1 q2 => jh (by omega) (by omega)
  repeat' (first | ((with_reducible refine hK _ ?_); clear hK K) | (with_reducible refine ak ?_ ?_) | ((with_reducible refine gi ?_); first | (refine aB ?_ ?_; rfl) | (refine aC ?_ ?_; (rfl; refine gF ?_)) | ((with_reducible refine gS rfl ?_ ?_) <;> (intro hb hb'; first | (exfalso; omega) | skip))) | ((with_reducible refine gxi ?_); first | (refine aO ?_ ?_; rfl) | (refine aP ?_ ?_; (rfl; refine gxF ?_)) | ((with_reducible refine gxS rfl ?_ ?_) <;> (intro hb hb'; first | (exfalso; omega) | skip))) | ((with_reducible refine aU ?_); first | (refine aQ true (h := (aX l _ _ (10) (by first | assumption | omega) (by first | assumption | omega) hl (by decide))) (hK := ?_); rintro _ _ _ ⟨⟨n1, hn10, hn11, hn12, rfl⟩, rfl, i, h, hi0, hi1, rfl⟩) | (refine aQ true (h := (aX l _ _ (9) (by first | assumption | omega) (by first | assumption | omega) hl (by decide))) (hK := ?_); rintro _ _ _ ⟨⟨n2, hn20, hn21, hn22, rfl⟩, rfl, i, h, hi0, hi1, rfl⟩) | (refine aQ true (h := (mD l _ _ (20) (by first | assumption | omega) (by first | assumption | omega) hl (by decide))) (hK := ?_); rintro _ _ _ ⟨⟨b, rfl⟩, rfl, i, h, hi0, hi1, rfl⟩)) | ((with_reducible refine aH ?_); refine ss (And.intro tdC @gZ) ?_) | ((with_reducible refine bC ?_); refine sx (And.intro tdC @gZ) ?_) | refine nv ?_ | (refine rD ?_; intro K hK) | (with_reducible (refine cS rfl ?_ ?_) <;> (intro hb hb'; first | (exfalso; omega) | skip)) | (exact GCell.el _) | exact aY | exact aI)
  all_goals first
    | omega
    | (refine Va rfl rfl rfl (by kernel_rfl) ?_
       intro e he
       refine ⟨⟨e, ?_, rfl⟩, rfl, _, _, ‹_›, ‹_›, rfl⟩
       subst he
       unfold ny
       simp only [fF] at hx ⊢
       omega)
theorem RI (l : List UInt8) (i h k a : Int) (cs : List GCell) (xd xv xk : Int) (xm xc : ByteArray) (xn : Int) (hl : l.length ≤ 1048576) (hi0 : 0 ≤ i) (hi1 : i ≤ l.length) (hk : 0 ≤ k ∧ k ≤ 9) (ha : -1 ≤ a ∧ a ≤ 9) (hx : fF 5000 ⟨xd, xv, xk, xm, xc, xn⟩) {st : St} (hle : fZ st ⟨[.bptr 0 0, .any, .any, .any, .bptr 2 0, .bptr 3 0, .bptr 4 0, .any, .any, .any, .any, .any, .any, .any, .any, .any, .any, .any, .any, .any, .any, .any, .any, .any, .any, .any, .any, .any, .any, .any, .any, .any, .any, .any, .any, .any, .any, .any, .any, .any, .any, .any, .any, .any, .any, .any, .any, .any, .any, .any, .any, .any, .any, .any, .any, .any, .any, .any, .any, .any, .any, .any, .any, .any, .any, .any, .any, .any, .any, .any, .any, .any, .any, .any, .any, .any, .any, .any, .any, .any, .any, .any, .any, .any, .any, .any, .any, .any, .any, .any, .any, .any, .any, .any, .any, .any, .any, .any, .any, .any], [], [bM l i h, [.sl false (cs.map GCell.toD)], [.raw (.int .i64 0), .raw (.int .i64 0), .raw (.int .i64 0), .raw (.int .i64 0), .raw (.int .i64 0), .raw (.string ⟨#[]⟩), .raw (.string ⟨#[]⟩), .raw (.int .i64 0)], [.raw (.int .i64 k), .raw (.int .i64 a), .raw (.int .i64 0), .raw (.int .i64 0), .raw (.int .i64 0), .raw (.string ⟨#[]⟩), .raw (.string ⟨#[]⟩), .raw (.int .i64 0)], [.raw (.int .i64 xd), .raw (.int .i64 xv), .raw (.int .i64 xk), .raw (.string xm), .raw (.string xc), .raw (.int .i64 xn)]]⟩) :
    eP (0, 1) Try.prog rC (kT (uS Try.prog (.cell 4 38) (fun r os' c' => (∃ e : GEdit, ny e ∧ r = .c true [.raw (.int .i64 e.kind), .raw (.int .i64 e.pos), .raw (.int .i64 e.cell.id), .raw (.int .i64 e.cell.ver), .raw (.int .i64 e.cell.kind), .raw (.string e.cell.name), .raw (.string e.cell.code), .raw (.int .i64 e.cell.n)]) ∧ os' = [] ∧ l7 l c'))) st := Ed (vZ hle) (Nat.zero_le _) (by simp) (Ux l i h k a cs xd xv xk xm xc xn hl hi0 hi1 hk ha hx)
theorem V7 {cs : List GCell} {j : Nat} (h : j < cs.length) : idx (cs.map GCell.toD) (some (j : Int)) = some (cs[j]).toD := dI GCell.toD cs h
set_option maxRecDepth 8000 in
set_option maxHeartbeats 32000000 in
theorem Uy (l : List UInt8) (i h k a : Int) (cs : List GCell) (hl : l.length ≤ 1048576) (hi0 : 0 ≤ i) (hi1 : i ≤ l.length) (hk : 0 ≤ k ∧ k ≤ 9) (ha : -1 ≤ a ∧ a ≤ 9) (hcs : cs.length ≤ 9) (hall : ∀ x ∈ cs, fF 5000 x) :
    eP (0, 1) Try.prog rE (kT (uS Try.prog (.cell 4 38) (fun r os' c' => (∃ e : GEdit, ny e ∧ r = .c true [.raw (.int .i64 e.kind), .raw (.int .i64 e.pos), .raw (.int .i64 e.cell.id), .raw (.int .i64 e.cell.ver), .raw (.int .i64 e.cell.kind), .raw (.string e.cell.name), .raw (.string e.cell.code), .raw (.int .i64 e.cell.n)]) ∧ os' = [] ∧ l7 l c'))) ⟨[.bptr 0 0, .any, .any, .bptr 1 0, .bptr 2 0, .bptr 3 0, .any, .any, .any, .any, .any, .any, .any, .any, .any, .any, .any, .any, .any, .any, .any, .any, .any, .any, .any, .any, .any, .any, .any, .any, .any, .any, .any, .any, .any, .any, .any, .any, .any, .any, .any, .any, .any, .any, .any, .any, .any, .any, .any, .any, .any, .any, .any, .any, .any, .any, .any, .any, .any, .any, .any, .any, .any, .any, .any, .any, .any, .any, .any, .any, .any, .any, .any, .any, .any, .any, .any, .any, .any, .any, .any, .any, .any, .any, .any, .any, .any, .any, .any, .any, .any, .any, .any, .any, .any, .any, .any, .any, .any, .any], [], [bM l i h, [.sl false (cs.map GCell.toD)], [.raw (.int .i64 0), .raw (.int .i64 0), .raw (.int .i64 0), .raw (.int .i64 0), .raw (.int .i64 0), .raw (.string ⟨#[]⟩), .raw (.string ⟨#[]⟩), .raw (.int .i64 0)], [.raw (.int .i64 k), .raw (.int .i64 a), .raw (.int .i64 0), .raw (.int .i64 0), .raw (.int .i64 0), .raw (.string ⟨#[]⟩), .raw (.string ⟨#[]⟩), .raw (.int .i64 0)]]⟩ := by
  unfold rE
  have hw : ∀ z : Int, 0 ≤ z → z < 20 → IntKind.i64.wrap (1 + z) = 1 + z := fun z q1 q2 => jh (by omega) (by omega)
  repeat' (first | ((with_reducible refine aG ?_); intro K hK) | ((first | ((with_reducible refine bQ false ?_ ?_); rfl) | ((with_reducible refine bQ true ?_ ?_); rfl)); intro K hK) | ((first | (with_reducible refine bW 0 false fO ?_) | (refine bW 0 false (by simp [iT, St.ev]) ?_)); intro K hK) | refine nN ?_ | ((with_reducible refine hK _ ?_); clear hK K) | (with_reducible refine ak ?_ ?_) | ((with_reducible refine gi ?_); first | (refine aB ?_ ?_; rfl) | (refine aC ?_ ?_; (rfl; refine gF ?_)) | ((with_reducible refine gS rfl ?_ ?_) <;> (intro hb hb'; first | (exfalso; omega) | skip))) | ((with_reducible refine gxi ?_); first | (refine aO ?_ ?_; rfl) | (refine aP ?_ ?_; (rfl; refine gxF ?_)) | ((with_reducible refine gxS rfl ?_ ?_) <;> (intro hb hb'; first | (exfalso; omega) | skip))) | ((with_reducible refine aU ?_); first | (refine aQ true (h := (aX l _ _ (20) (by first | assumption | omega) (by first | assumption | omega) hl (by decide))) (hK := ?_); rintro _ _ _ ⟨⟨n1, hn10, hn11, hn12, rfl⟩, rfl, i, h, hi0, hi1, rfl⟩) | (refine aQ true (h := (aX l _ _ (8) (by first | assumption | omega) (by first | assumption | omega) hl (by decide))) (hK := ?_); rintro _ _ _ ⟨⟨n1, hn10, hn11, hn12, rfl⟩, rfl, i, h, hi0, hi1, rfl⟩) | (refine aQ true (h := (mD l _ _ (8) (by first | assumption | omega) (by first | assumption | omega) hl (by decide))) (hK := ?_); rintro _ _ _ ⟨⟨b, rfl⟩, rfl, i, h, hi0, hi1, rfl⟩) | (refine aQ true (h := (mD l _ _ (4) (by first | assumption | omega) (by first | assumption | omega) hl (by decide))) (hK := ?_); rintro _ _ _ ⟨⟨b, rfl⟩, rfl, i, h, hi0, hi1, rfl⟩) | (refine aQ true (h := (mD l _ _ (6) (by first | assumption | omega) (by first | assumption | omega) hl (by decide))) (hK := ?_); rintro _ _ _ ⟨⟨b, rfl⟩, rfl, i, h, hi0, hi1, rfl⟩) | (refine aQ true (h := (mD l _ _ (2) (by first | assumption | omega) (by first | assumption | omega) hl (by decide))) (hK := ?_); rintro _ _ _ ⟨⟨b, rfl⟩, rfl, i, h, hi0, hi1, rfl⟩) | (refine aQ true (h := (KD l _ _ _ (by first | assumption | omega) (by first | assumption | omega) hl (by constructor <;> omega))) (hK := ?_); rintro _ _ _ ⟨⟨x, hx, hxi, rfl⟩, rfl, i, h, hi0, hi1, rfl⟩) | (refine aQ true (h := (KC l _ _ (by first | assumption | omega) (by first | assumption | omega) hl)) (hK := ?_); rintro _ _ _ ⟨⟨s, hs, rfl⟩, rfl, i, h, hi0, hi1, rfl⟩) | (refine aQ true (h := (og l _ _ (cs.length) (by assumption) (by assumption) hl (by omega) (by omega))) (hK := ?_); rintro _ _ _ ⟨⟨j, hj, rfl⟩, rfl, i, h, hi0, hi1, rfl⟩)) | ((with_reducible refine jR ?_); first | (refine kV true (h := (og l _ _ (cs.length) (by assumption) (by assumption) hl (by omega) (by omega))) (hne := ⟨_, [], bM l 0 0, ⟨⟨0, by omega, rfl⟩, rfl, 0, 0, by omega, by omega, rfl⟩, rfl⟩) (hr := ?_); rintro _ _ _ ⟨⟨j, hj, rfl⟩, rfl, i, h, hi0, hi1, rfl⟩)) | ((with_reducible refine aH ?_); refine ss (And.intro tdC (And.intro @gZ (And.intro hw @V7))) ?_) | ((with_reducible refine bC ?_); refine sx (And.intro tdC (And.intro @gZ (And.intro hw @V7))) ?_) | refine nv ?_ | (with_reducible (refine cS rfl ?_ ?_) <;> (intro hb hb'; first | (exfalso; omega) | skip)) | (exact GCell.el _) | exact aY | exact aI)
  all_goals try omega
  all_goals first
    | (refine Va rfl rfl rfl (by kernel_rfl) ?_
       intro e he
       refine ⟨⟨e, ?_, rfl⟩, rfl, _, _, ‹_›, ‹_›, rfl⟩
       subst he
       unfold ny fF
       unfold fF at hx
       simp only
       omega)
    | (try have hcj := hall _ (List.getElem_mem hj)
       refine RI l _ _ _ _ cs _ _ _ _ _ _ hl (by assumption) (by assumption) (by omega) ha ?cb ⟨?fr, trivial, ⟨rfl, rfl, rfl, rfl, rfl, trivial⟩, ?ft⟩
       case fr => simp [iR, AV.fits, AC.fits]
       case ft => simp [AC.fits, bM]
       case cb =>
         unfold fF at hx ⊢
         try unfold fF at hcj
         simp only
         omega)
theorem RJ (l : List UInt8) (i h k a : Int) (cs : List GCell) (hl : l.length ≤ 1048576) (hi0 : 0 ≤ i) (hi1 : i ≤ l.length) (hk : 0 ≤ k ∧ k ≤ 9) (ha : -1 ≤ a ∧ a ≤ 9) (hcs : cs.length ≤ 9) (hall : ∀ x ∈ cs, fF 5000 x) {st : St} (hle : fZ st ⟨[.bptr 0 0, .any, .any, .bptr 1 0, .bptr 2 0, .bptr 3 0, .any, .any, .any, .any, .any, .any, .any, .any, .any, .any, .any, .any, .any, .any, .any, .any, .any, .any, .any, .any, .any, .any, .any, .any, .any, .any, .any, .any, .any, .any, .any, .any, .any, .any, .any, .any, .any, .any, .any, .any, .any, .any, .any, .any, .any, .any, .any, .any, .any, .any, .any, .any, .any, .any, .any, .any, .any, .any, .any, .any, .any, .any, .any, .any, .any, .any, .any, .any, .any, .any, .any, .any, .any, .any, .any, .any, .any, .any, .any, .any, .any, .any, .any, .any, .any, .any, .any, .any, .any, .any, .any, .any, .any, .any], [], [bM l i h, [.sl false (cs.map GCell.toD)], [.raw (.int .i64 0), .raw (.int .i64 0), .raw (.int .i64 0), .raw (.int .i64 0), .raw (.int .i64 0), .raw (.string ⟨#[]⟩), .raw (.string ⟨#[]⟩), .raw (.int .i64 0)], [.raw (.int .i64 k), .raw (.int .i64 a), .raw (.int .i64 0), .raw (.int .i64 0), .raw (.int .i64 0), .raw (.string ⟨#[]⟩), .raw (.string ⟨#[]⟩), .raw (.int .i64 0)]]⟩) :
    eP (0, 1) Try.prog rE (kT (uS Try.prog (.cell 4 38) (fun r os' c' => (∃ e : GEdit, ny e ∧ r = .c true [.raw (.int .i64 e.kind), .raw (.int .i64 e.pos), .raw (.int .i64 e.cell.id), .raw (.int .i64 e.cell.ver), .raw (.int .i64 e.cell.kind), .raw (.string e.cell.name), .raw (.string e.cell.code), .raw (.int .i64 e.cell.n)]) ∧ os' = [] ∧ l7 l c'))) st := Ed (vZ hle) (Nat.zero_le _) (by simp) (Uy l i h k a cs hl hi0 hi1 hk ha hcs hall)
set_option maxRecDepth 8000 in
set_option maxHeartbeats 16000000 in
theorem Uw (l : List UInt8) (i h : Int) (cs : List GCell) (h0 : 0 ≤ i) (h1 : i ≤ l.length) (hl : l.length ≤ 1048576) (hcs : cs.length ≤ 9) (hall : ∀ x ∈ cs, fF 5000 x) : eH Try.prog 43 [(⟨cs⟩ : GNb).toD] (bM l i h) (fun r os' c' => (∃ e : GEdit, ny e ∧ r = .c true [.raw (.int .i64 e.kind), .raw (.int .i64 e.pos), .raw (.int .i64 e.cell.id), .raw (.int .i64 e.cell.ver), .raw (.int .i64 e.cell.kind), .raw (.string e.cell.name), .raw (.string e.cell.code), .raw (.int .i64 e.cell.n)]) ∧ os' = [] ∧ l7 l c') := by
  refine iQ (fn := Try.f43) (r := .cell 4 38) (by kernel_rfl) (by kernel_rfl) (by kernel_rfl) Ij ?_
  unfold Ik bM
  change eP _ _ _ _ (stS 100 _ _ _)
  refine sS tdX ?_
  try simp only [GNb.bK, GNb.bG]
  have hw : ∀ z : Int, 0 ≤ z → z < 6 → IntKind.i64.wrap (1 + z) = 1 + z := fun z q1 q2 => jh (by omega) (by omega)
  have hw2 : ∀ z : Int, 0 ≤ z → z < 10 → IntKind.i64.wrap (z - 1) = z - 1 := fun z q1 q2 => jh (by omega) (by omega)
  repeat' (first | ((with_reducible refine hK _ ?_); clear hK K) | (with_reducible refine ak ?_ ?_) | ((with_reducible refine gi ?_); first | (refine aB ?_ ?_; rfl) | (refine aC ?_ ?_; (rfl; refine gF ?_)) | ((with_reducible refine gS rfl ?_ ?_) <;> (intro hb hb'; first | (exfalso; omega) | skip))) | ((with_reducible refine gxi ?_); first | (refine aO ?_ ?_; rfl) | (refine aP ?_ ?_; (rfl; refine gxF ?_)) | ((with_reducible refine gxS rfl ?_ ?_) <;> (intro hb hb'; first | (exfalso; omega) | skip))) | ((with_reducible refine aU ?_); first | (refine aQ true (h := (aX l _ _ (6) (by first | assumption | omega) (by first | assumption | omega) hl (by decide))) (hK := ?_); rintro _ _ _ ⟨⟨kd, hkd0, hkd1, hkd2, rfl⟩, rfl, i, h, hi0, hi1, rfl⟩) | (refine aQ true (h := (aX l _ _ (10) (by first | assumption | omega) (by first | assumption | omega) hl (by decide))) (hK := ?_); rintro _ _ _ ⟨⟨ad, had0, had1, had2, rfl⟩, rfl, i, h, hi0, hi1, rfl⟩) | (refine aQ true (h := (mD l _ _ (2) (by first | assumption | omega) (by first | assumption | omega) hl (by decide))) (hK := ?_); rintro _ _ _ ⟨⟨b, rfl⟩, rfl, i, h, hi0, hi1, rfl⟩)) | ((with_reducible refine aH ?_); refine ss (And.intro tdC (And.intro @gZ (And.intro hw hw2))) ?_) | ((with_reducible refine bC ?_); refine sx (And.intro tdC (And.intro @gZ (And.intro hw hw2))) ?_) | refine nv ?_ | (refine rD ?_; intro K hK) | (with_reducible (refine cS rfl ?_ ?_) <;> (intro hb hb'; first | (exfalso; omega) | skip)) | (exact GCell.el _) | exact aY | exact aI)
  all_goals
    (refine RJ l _ _ _ _ cs hl (by assumption) (by assumption) (by omega) (by omega) hcs hall ⟨?fr, trivial, ⟨rfl, rfl, rfl, rfl, trivial⟩, ?ft⟩
     case fr => simp [iR, AV.fits, AC.fits]
     case ft => simp [AC.fits, bM])
end Go.Proofs.Ytnongnchpplacaa

namespace Go.Proofs.Ytnongnchpplacaa
open Go.RowKit
set_option linter.unusedSimpArgs false
set_option linter.unusedVariables false
def edF (e : GEdit) : D := .agg [.leaf (.int .i64 e.kind), .leaf (.int .i64 e.pos), .leaf (.int .i64 e.cell.id), .leaf (.int .i64 e.cell.ver), .leaf (.int .i64 e.cell.kind), .leaf (.string e.cell.name), .leaf (.string e.cell.code), .leaf (.int .i64 e.cell.n)]
theorem qF (l : List GEdit) : El 8 (l.map edF) := fun d hd => by
  obtain ⟨e, _, rfl⟩ := List.mem_map.1 hd
  exact ⟨by simp [edF, D.one, D.ones, Value.oneCell'], by simp [edF, D.sz, D.szs]⟩
theorem BH {w : World} {fp : List Nat} {cs : List Value} (e : GEdit) : R w (edF e) fp cs ↔ fp = [] ∧ cs = [.int .i64 e.kind, .int .i64 e.pos, .int .i64 e.cell.id, .int .i64 e.cell.ver, .int .i64 e.cell.kind, .string e.cell.name, .string e.cell.code, .int .i64 e.cell.n] := by
  unfold edF
  rw [mY]
  simp only [kS, oD]
  constructor
  · rintro ⟨_, rfl, _, rfl, _, rfl, _, rfl, _, rfl, _, rfl, _, rfl, _, rfl, h⟩
    obtain ⟨rfl, rfl⟩ := h
    exact ⟨rfl, rfl⟩
  · rintro ⟨rfl, rfl⟩
    exact ⟨_, rfl, _, rfl, _, rfl, _, rfl, _, rfl, _, rfl, _, rfl, _, rfl, rfl, rfl⟩
theorem xP {n : Int} (h0 : -9000000000000000000 ≤ n) (h1 : n ≤ 9000000000000000000) : (li n).wf := by
  show (decide (IntKind.i64.min ≤ n) && decide (n ≤ IntKind.i64.max)) = true
  rw [show IntKind.i64.min = -9223372036854775808 from rfl, show IntKind.i64.max = 9223372036854775807 from rfl]
  simp
  omega
theorem Ea {x : GCell} (h : fF 5000 x) : x.toD.wf := by
  obtain ⟨h1, h2, h3, h4, h5, h6⟩ := h
  refine ⟨xP (by omega) (by omega), xP (by omega) (by omega), xP (by omega) (by omega), ?_, ?_, xP (by omega) (by omega), trivial⟩
  · show x.name.size ≤ maxLen
    unfold maxLen; omega
  · show x.code.size ≤ maxLen
    unfold maxLen; omega
theorem I7 {e : GEdit} (h : ny e) : e.toD.wf := ⟨xP (by have := h.1; omega) (by have := h.1; omega), xP (by have := h.2.1; omega) (by have := h.2.1; omega), Ea h.2.2, trivial⟩
theorem Ej {l : List GCell} {e : GEdit} (h : ∀ x ∈ l, fF 5000 x) (he : ny e) : ∀ x ∈ (app l e).1, fF 5000 x := by
  have hc : fF 5000 e.cell := he.2.2
  cases hv : (dH l && inR e.kind 1 6) with
  | false => unfold app; rw [hv]; exact h
  | true =>
    have ha : app l e = chg l e := by unfold app; rw [if_pos hv]
    rw [ha]
    simp only [Bool.and_eq_true] at hv
    have hput : ∀ (r : List GCell) (k : Nat) (c : GCell), (∀ x ∈ r, fF 5000 x) → fF 5000 c → ∀ x ∈ oI r k c, fF 5000 x := by
      intro r k c hr hcw x hx
      unfold oI at hx
      simp only [List.mem_append, List.mem_singleton] at hx
      rcases hx with (hx | rfl) | hx
      · exact hr x (List.mem_of_mem_take hx)
      · exact hcw
      · exact hr x (List.mem_of_mem_drop hx)
    have hdrop : ∀ (k : Nat), ∀ x ∈ gQ l k, fF 5000 x := by
      intro k x hx
      unfold gQ at hx
      simp only [List.mem_append] at hx
      rcases hx with hx | hx
      · exact h x (List.mem_of_mem_take hx)
      · exact h x (List.mem_of_mem_drop hx)
    have hnew : ∀ x ∈ l, fF 5000 (cO x e) := by
      intro x hx
      have h1 := h x hx
      obtain ⟨k, hk, rfl⟩ := List.mem_iff_getElem.1 hx
      have h2 := nC (lS hv.1 hk)
      unfold cO
      unfold fF at h1 hc ⊢
      split
      · simp only; omega
      · split
        · simp only; omega
        · simp only; omega
    unfold chg
    repeat' split
    all_goals first
      | exact h
      | exact hput _ _ _ h hc
      | exact hdrop _
      | (refine hput _ _ _ (hdrop _) ?_; exact h _ (List.mem_of_getElem? (by assumption)))
      | (intro y hy
         rcases List.mem_or_eq_of_mem_set hy with hy | rfl
         · exact h y hy
         · exact hnew _ (List.mem_of_getElem? (by assumption)))
def DK : IC := (.seq (.reg false [⟨(some 4), none, .box (.t 1)⟩, ⟨(some 6), none, .mov (.k (.slice none 0 0))⟩]) (.seq (.reg false [⟨(some 11), none, .brow true 38 8 0 false []⟩, ⟨(some 7), none, .mov (.t 11)⟩]) (.seq (.reg false [⟨(some 12), none, .mov (.t 0)⟩, ⟨(some 13), none, .mov (.t 2)⟩, ⟨(some 14), none, .bin .add (.t 13) (.k (.int .i64 1))⟩, ⟨(some 15), none, .call 49 [(.t 12), (.t 14)]⟩, ⟨(some 8), none, .mov (.t 15)⟩]) (.seq (.seq (.reg false [⟨(some 9), none, .mov (.k (.int .i64 0))⟩]) (.block 0 (.loop (.seq (.seq (.reg false [⟨(some 16), none, .mov (.t 9)⟩, ⟨(some 17), none, .mov (.t 8)⟩, ⟨(some 18), none, .bin .lss (.t 16) (.t 17)⟩]) (.cond (.t 18) .skip (.exit 0))) (.seq (.block 1 (.seq (.reg false [⟨(some 21), none, .mov (.t 0)⟩, ⟨(some 22), none, .load 1 true (.t 4)⟩, ⟨(some 23), none, .call 43 [(.t 21), (.t 22)]⟩, ⟨(some 10), none, .alloc [(.int .i64 0), (.int .i64 0), (.int .i64 0), (.int .i64 0), (.int .i64 0), (.string ⟨#[]⟩), (.string ⟨#[]⟩), (.int .i64 0)]⟩, ⟨none, none, .store 8 (.t 10) (.t 23)⟩]) (.seq (.reg false [⟨(some 24), none, .mov (.t 7)⟩, ⟨(some 25), none, .load 8 true (.t 10)⟩, ⟨(some 26), none, .brow false 38 8 1 false [(.t 25)]⟩, ⟨(some 27), none, .app 38 8 (.t 24) (.t 26)⟩, ⟨(some 7), none, .mov (.t 27)⟩]) (.reg false [⟨(some 29), none, .load 1 true (.t 4)⟩, ⟨(some 30), none, .load 8 true (.t 10)⟩, ⟨(some 31), none, .call 23 [(.t 29), (.t 30)]⟩, ⟨(some 28), none, .mov (.t 31)⟩, ⟨(some 32), none, .ext 0 (.t 28)⟩, ⟨(some 33), none, .ext 1 (.t 28)⟩, ⟨none, none, .store 1 (.t 4) (.t 32)⟩])))) (.reg false [⟨(some 19), none, .mov (.t 9)⟩, ⟨(some 20), none, .bin .add (.t 19) (.k (.int .i64 1))⟩, ⟨(some 9), none, .mov (.t 20)⟩])))))) (.seq (.reg false [⟨(some 34), none, .mov (.t 7)⟩, ⟨(some 6), none, .mov (.t 34)⟩]) .ret)))))
theorem E8 : aF Try.prog (Try.f48.body.getD .skip) = some DK := by kernel_rfl
theorem U8 (es : List GEdit) : dW (es.map edF) := lX (g := edF) (fun x w f cs h => ((BH x).1 h).1) es
theorem SN {es : List GEdit} {e : GEdit} : es.map edF ++ [edF e] = (es ++ [e]).map edF := by simp
theorem SV {p : GEdit → Prop} {es : List GEdit} {e : GEdit} (h : ∀ y ∈ es, p y) (hx : p e) : ∀ y ∈ es ++ [e], p y := fun y hy => (List.mem_append.1 hy).elim (h y) (fun q => (List.mem_singleton.1 q) ▸ hx)
theorem uN : ∀ {cs : List GCell}, (∀ x ∈ cs, fF 5000 x) → D.wfs (cs.map GCell.toD)
  | [], _ => trivial
  | x :: cs, h => ⟨Ea (h x (by simp)), uN fun y hy => h y (by simp [hy])⟩
set_option maxRecDepth 8000 in
set_option maxHeartbeats 16000000 in
theorem FY (l : List UInt8) (i h : Int) (cs : List GCell) (m : Nat) (h0 : 0 ≤ i) (h1 : i ≤ l.length) (hl : l.length ≤ 1048576) (hcs : cs.length ≤ 9) (hall : ∀ x ∈ cs, fF 5000 x) (hm : m ≤ 8) : eH Try.prog 48 [(⟨cs⟩ : GNb).toD, li (m : Int)] (bM l i h)
    (fun r os' c' => (∃ es : List GEdit, es.length ≤ m ∧ (∀ e ∈ es, ny e) ∧ r = .c false [.own 0 0] ∧ os' = [⟨es.map edF, 38, 8, 0, ⟨true, true⟩⟩]) ∧ l7 l c') := by
  refine iQ (fn := Try.f48) (r := .tmp 6) (by kernel_rfl) (by kernel_rfl) (by kernel_rfl) E8 ?_
  unfold DK bM
  change eP _ _ _ _ (stS 35 _ _ _)
  refine sS tdX ?_
  try simp only [GNb.bK, GNb.bG]
  have hw0 : IntKind.i64.wrap ((m : Int) + 1) = ((m + 1 : Nat) : Int) := dY (by omega)
  repeat' (first | ((with_reducible refine aG ?_); intro K hK) | ((with_reducible refine hK _ ?_); clear hK K) | (with_reducible refine ak ?_ ?_) | ((with_reducible refine aU ?_); first | (refine aQ true (h := (og l _ _ (m + 1) (by assumption) (by assumption) hl (by omega) (by omega))) (hK := ?_); rintro _ _ _ ⟨⟨n, hn, rfl⟩, rfl, i, h, hi0, hi1, rfl⟩)) | ((with_reducible refine aH ?_); refine ss (And.intro tdC (And.intro @gZ hw0)) ?_) | refine nv ?_ | (with_reducible (refine cS rfl ?_ ?_) <;> (intro hb hb'; first | (exfalso; omega) | skip)) | (exact GCell.el _) | (exact qF [⟨_, _, ⟨_, _, _, _, _, _⟩⟩]) | (exact qF [_]) | exact aY | exact aI)
  refine nK (X := Nat × Nat × Bool × List GCell × List GEdit × Int × Int) (fun z => [.k, .d, .d, .d, .k, .d, .d, .v (.c false [.own 0 z.2.1]), .k, .v (.c false [.raw (.int .i64 ((z.1 : Nat)))]), .d, .d, .d, .d, .d, .d, .d, .d, .d, .d, .d, .d, .d, .d, .d, .d, .d, .d, .d, .d, .d, .d, .d, .d, .d]) (fun z => [⟨z.2.2.2.2.1.map edF, 38, 8, z.2.1, ⟨true, false⟩⟩]) (fun z _ => [bM l z.2.2.2.2.2.1 z.2.2.2.2.2.2, [.sl z.2.2.1 (z.2.2.2.1.map GCell.toD)]])
    (fun z => z.1 ≤ n ∧ z.2.2.2.2.1.length = z.1 ∧ z.2.2.2.1.length ≤ 9 ∧ (∀ x ∈ z.2.2.2.1, fF 5000 x) ∧ (∀ e ∈ z.2.2.2.2.1, ny e) ∧ 0 ≤ z.2.2.2.2.2.1 ∧ z.2.2.2.2.2.1 ≤ l.length) (fun z => n - z.1) (0, 0, false, cs, [], i, h) ⟨Nat.zero_le _, rfl, hcs, hall, fun e he => by simp at he, hi0, hi1⟩ (fun z => ⟨Nat.zero_le _, by simp⟩) ?_ ?_
  · simp [fZ, iR, gI, gJ, AV.fits, AC.fits, FB, eU, bM]
  clear hall hcs
  rintro ⟨k, v, b, cs, es, i, h⟩ ⟨hk, hes, hcs, hallcs, halle, hi0, hi1⟩
  simp only at hk hes hcs hallcs halle hi0 hi1
  simp only [FB, eU]
  by_cases hlt : k < n
  · have hT : decide ((k : Int) < (n : Int)) = true := decide_eq_true (by omega)
    have hw1 : IntKind.i64.wrap ((k : Int) + 1) = ((k + 1 : Nat) : Int) := dY (by omega)
    repeat' (first | ((with_reducible refine aG ?_); intro K hK) | ((with_reducible refine hK _ ?_); clear hK K) | (with_reducible refine ak ?_ ?_) | ((with_reducible refine aU ?_); first | (refine aQ true (h := (Uw l _ _ cs (by first | assumption | omega) (by first | assumption | omega) hl (by omega) hallcs)) (hK := ?_); rintro _ _ _ ⟨⟨e, he, rfl⟩, rfl, i, h, hi0, hi1, rfl⟩) | refine au (hc := (uX ⟨cs⟩ e (by simp only; omega) (uN hallcs) (I7 he))) (h := ?_)) | ((with_reducible refine aH ?_); refine ss (And.intro tdC (And.intro @gZ (And.intro hT hw1))) ?_) | refine nv ?_ | (with_reducible (refine cS rfl ?_ ?_) <;> (intro hb hb'; first | (exfalso; omega) | skip)) | (exact GCell.el _) | (exact qF [⟨_, _, ⟨_, _, _, _, _, _⟩⟩]) | (exact qF [_]) | exact aY | exact aI)
    all_goals first
      | omega
      | (simp only [List.length_map]; omega)
      | (refine iU (k + 1, v + 1, true, (app cs e).1, es ++ [e], i, h) ⟨?fr, ⟨⟨SN, rfl, rfl, rfl, rfl⟩, trivial⟩, ⟨rfl, rfl, trivial⟩, rfl⟩ ⟨by simp only; omega, by simp [hes], by have := Jl cs e; simp only; omega, Ej hallcs he, SV halle he, hi0, hi1⟩ (show n - (k + 1) < n - k by omega)
         case fr => simp [iR, AV.fits, AC.fits, FB, eU])
  · have hT : decide ((k : Int) < (n : Int)) = false := decide_eq_false (by omega)
    repeat' (first | ((with_reducible refine aG ?_); intro K hK) | ((with_reducible refine hK _ ?_); clear hK K) | (with_reducible refine ak ?_ ?_) | ((with_reducible refine aH ?_); refine ss (And.intro tdC (And.intro @gZ hT)) ?_) | refine nv ?_ | (with_reducible (refine cS rfl ?_ ?_) <;> (intro hb hb'; first | (exfalso; omega) | skip)) | (exact GCell.el _) | (exact qF [⟨_, _, ⟨_, _, _, _, _, _⟩⟩]) | (exact qF [_]) | exact aY | exact aI)
    exact ⟨false, [.own 0 0], [⟨es.map edF, 38, 8, 0, ⟨true, true⟩⟩], bM l i h, [0], ⟨⟨es, by omega, halle, rfl, rfl⟩, i, h, hi0, hi1, rfl⟩, rfl, rfl, rfl, by simp, ⟨⟨_, rfl, rfl, U8 es⟩, trivial⟩, rfl, _, rfl, ⟨rfl, rfl, _, rfl, rfl⟩, trivial⟩
def Bh : IC := (.seq (.reg false [⟨(some 2), none, .alloc [(.slice none 0 0)]⟩, ⟨(some 3), none, .mov (.k (.slice none 0 0))⟩]) (.seq (.reg false [⟨(some 6), none, .mov (.t 0)⟩, ⟨(some 7), none, .call 31 [(.t 6)]⟩, ⟨(some 4), none, .mov (.t 7)⟩]) (.seq (.reg false [⟨(some 8), none, .mov (.t 4)⟩, ⟨(some 9), none, .call 41 [(.t 8), (.k (.int .i64 6))]⟩, ⟨(some 5), none, .alloc [(.slice none 0 0)]⟩, ⟨none, none, .store 1 (.t 5) (.t 9)⟩]) (.seq (.regN true [] [⟨(some 10), none, .load 1 true (.t 5)⟩, ⟨(some 11), none, .mov (.t 4)⟩, ⟨(some 12), none, .load 1 true (.t 5)⟩, ⟨(some 13), none, .call 48 [(.t 11), (.t 12), (.k (.int .i64 6))]⟩, ⟨none, none, .store 1 (.t 2) (.t 10)⟩, ⟨(some 3), none, .mov (.t 13)⟩]) .ret))))
theorem C9 : aF Try.prog (Try.f25.body.getD .skip) = some Bh := by kernel_rfl
set_option maxRecDepth 8000 in
set_option maxHeartbeats 16000000 in
theorem Ot (l : List UInt8) (hl : l.length ≤ 1048576) : fB Try.prog 25 [.sl (l.map lu8)] (fun r os' => ∃ (cs : List GCell) (es : List GEdit), cs.length ≤ 9 ∧ es.length ≤ 8 ∧ (∀ x ∈ cs, fF 5000 x) ∧ (∀ e ∈ es, ny e) ∧ r = .tup [(true, [.own 0 0]), (false, [.own 1 0])] ∧ os' = [⟨cs.map GCell.toD, 31, 6, 0, ⟨true, true⟩⟩, ⟨es.map edF, 38, 8, 0, ⟨true, true⟩⟩]) := by
  refine OA (fn := Try.f25) (r := .cell 2 26) (q := .tmp 3) (by kernel_rfl) (by kernel_rfl) (by kernel_rfl) C9 ?_
  unfold Bh
  change AWP _ _ _ (st0 14 _)
  refine sS tdX ?_
  repeat' (first | ((with_reducible refine aG ?_); intro K hK) | ((first | ((with_reducible refine bQ false ?_ ?_); rfl) | ((with_reducible refine bQ true ?_ ?_); rfl)); intro K hK) | ((first | (with_reducible refine bW 1 true fO ?_) | (refine bW 1 true (by simp [iT, St.ev]) ?_)); intro K hK) | refine nN ?_ | ((with_reducible refine hK _ ?_); clear hK K) | (with_reducible refine ak ?_ ?_) | ((with_reducible refine aU ?_); first | ((refine Jf (V3 l _ _ _ hl (by simp [AC.fits]) (by simp [AC.fits])) ?_); rintro _ _ _ ⟨rfl, rfl, h, rfl⟩) | (refine aQ false (h := (Tn l _ _ 6 (by first | assumption | omega) (by first | assumption | omega) hl (by decide))) (hK := ?_); rintro _ _ _ ⟨⟨cs, hcs, hall, rfl, rfl⟩, i, h, hi0, hi1, rfl⟩)) | ((with_reducible refine aH ?_); refine ss (And.intro tdC @gZ) ?_) | ((with_reducible refine bC ?_); refine sx (And.intro tdC @gZ) ?_) | refine nv ?_ | (with_reducible (refine cS rfl ?_ ?_) <;> (intro hb hb'; first | (exfalso; omega) | skip)) | (exact GCell.el _) | (exact qF [⟨_, _, ⟨_, _, _, _, _, _⟩⟩]) | (exact qF [_]) | exact aY | exact aI)
  have hallcs : ∀ x ∈ cs, fF 5000 x := fun x hx => (hall x hx).mono (by decide)
  repeat' (first | ((with_reducible refine aG ?_); intro K hK) | ((first | ((with_reducible refine bQ false ?_ ?_); rfl) | ((with_reducible refine bQ true ?_ ?_); rfl)); intro K hK) | ((first | (with_reducible refine bW 1 true fO ?_) | (refine bW 1 true (by simp [iT, St.ev]) ?_)); intro K hK) | refine nN ?_ | ((with_reducible refine hK _ ?_); clear hK K) | (with_reducible refine ak ?_ ?_) | ((with_reducible refine aU ?_); first | (refine aQ false (h := (FY l _ _ cs 6 (by first | assumption | omega) (by first | assumption | omega) hl (by omega) hallcs (by decide))) (hK := ?_); rintro _ _ _ ⟨⟨es, hes, halle, rfl, rfl⟩, i, h, hi0, hi1, rfl⟩)) | ((with_reducible refine jR ?_); first | (refine kV false (h := (FY l _ _ cs 6 (by first | assumption | omega) (by first | assumption | omega) hl (by omega) hallcs (by decide))) (hne := ⟨_, [⟨[], 38, 8, 0, ⟨true, true⟩⟩], bM l 0 0, ⟨⟨[], by simp, fun x hx => by simp at hx, rfl, rfl⟩, 0, 0, by omega, by omega, rfl⟩, rfl⟩) (hr := ?_); rintro _ _ _ ⟨⟨es, hes, halle, rfl, rfl⟩, i, h, hi0, hi1, rfl⟩)) | ((with_reducible refine aH ?_); refine ss (And.intro tdC @gZ) ?_) | ((with_reducible refine bC ?_); refine sx (And.intro tdC @gZ) ?_) | refine nv ?_ | (with_reducible (refine cS rfl ?_ ?_) <;> (intro hb hb'; first | (exfalso; omega) | skip)) | (exact GCell.el _) | (exact qF [⟨_, _, ⟨_, _, _, _, _, _⟩⟩]) | (exact qF [_]) | exact aY | exact aI)
  exact ⟨true, false, [.own 0 0], [.own 1 0], [⟨cs.map GCell.toD, 31, 6, 0, ⟨true, true⟩⟩, ⟨es.map edF, 38, 8, 0, ⟨true, true⟩⟩], [0, 1], ⟨cs, es, by omega, by omega, hallcs, halle, rfl, rfl⟩, rfl, rfl, by decide, ⟨⟨_, rfl, rfl, Or.inr (U9 cs)⟩, ⟨_, rfl, rfl, Or.inr (U8 es)⟩, trivial⟩, (by kernel_rfl), rfl, ⟨0, _, rfl, rfl, ⟨rfl, rfl, _, rfl, rfl⟩, trivial⟩, ⟨_, rfl, ⟨rfl, rfl, _, rfl, rfl⟩, trivial⟩⟩
end Go.Proofs.Ytnongnchpplacaa

