/-
  Texts joined: Draw8 Draw9.
-/
import Derived.Test.YtnongnchpplacaaJW
import Derived.Test.YtnongnchpplacaaJR
namespace Go.Proofs.Ytnongnchpplacaa
open Go.RowKit
set_option linter.unusedSimpArgs false
set_option linter.unusedVariables false
def rV (e : GEdit) : Prop := (-1000000 ≤ e.kind ∧ e.kind ≤ 1000000) ∧ (-1000000 ≤ e.pos ∧ e.pos ≤ 1000000) ∧ fQ 5000 e.cell
section
variable {P : Program} {l : List UInt8} {t ty b : Nat} {st : St} {i h : Int} {k a id v kd n : Int} {m c : ByteArray} {post : AV → List Own → List AC → Prop}
theorem Wq (h1 : st.fr.getD t .any = .bptr b 0) (h2 : st.boxes[b]? = some [.raw (.int .i64 k), .raw (.int .i64 a), .raw (.int .i64 id), .raw (.int .i64 v), .raw (.int .i64 kd), .raw (.string m), .raw (.string c), .raw (.int .i64 n)]) (h0 : st.boxes[0]? = some (bQ l i h)) (hp : dY P (.cell t ty) true 8 = true)
    (hq : ∀ e : GEdit, e = ⟨k, a, ⟨id, v, kd, m, c, n⟩⟩ → post (.c true [.raw (.int .i64 e.kind), .raw (.int .i64 e.pos), .raw (.int .i64 e.cell.id), .raw (.int .i64 e.cell.ver), .raw (.int .i64 e.cell.kind), .raw (.string e.cell.name), .raw (.string e.cell.code), .raw (.int .i64 e.cell.n)]) [] (bQ l i h)) : kH (vH P (.cell t ty) post) .ret st :=
  ⟨true, _, [], _, [], hq _ rfl, rfl, h0, rfl, by simp, trivial, hp, b, _, h1, h2, ⟨rfl, rfl, rfl, rfl, rfl, rfl, rfl, rfl, trivial⟩⟩
end
def sD : IC := (.seq (.reg false [⟨(some 85), none, .load 6 true (.t 6)⟩, ⟨(some 86), none, .fad 2 (.t 5)⟩, ⟨none, none, .store 6 (.t 86) (.t 85)⟩]) (.seq (.seq (.reg false [⟨(some 87), none, .fad 0 (.t 5)⟩, ⟨(some 88), none, .load 1 false (.t 87)⟩, ⟨(some 89), none, .bin .eql (.t 88) (.k (.int .i64 5))⟩]) (.cond (.t 89) (.reg false [⟨(some 90), none, .mov (.t 0)⟩, ⟨(some 91), none, .call 49 [(.t 90), (.k (.int .i64 10))]⟩, ⟨(some 92), none, .fad 2 (.t 5)⟩, ⟨(some 93), none, .fad 5 (.t 92)⟩, ⟨none, none, .store 1 (.t 93) (.t 91)⟩]) .skip)) (.seq (.seq (.reg false [⟨(some 94), none, .mov (.t 0)⟩, ⟨(some 95), none, .call 42 [(.t 94), (.k (.int .i64 20))]⟩]) (.cond (.t 95) (.reg false [⟨(some 96), none, .mov (.t 0)⟩, ⟨(some 97), none, .call 49 [(.t 96), (.k (.int .i64 9))]⟩, ⟨(some 98), none, .fad 0 (.t 5)⟩, ⟨none, none, .store 1 (.t 98) (.t 97)⟩]) .skip)) (.seq (.reg false [⟨(some 99), none, .load 8 true (.t 5)⟩, ⟨none, none, .store 8 (.t 4) (.t 99)⟩]) .ret))))
def sF : IC := (.seq (.seq (.reg false [⟨(some 24), none, .fad 0 (.t 5)⟩, ⟨(some 25), none, .load 1 false (.t 24)⟩, ⟨(some 26), none, .bin .eql (.t 25) (.k (.int .i64 1))⟩]) (.cond (.t 26) (.seq (.reg false [⟨(some 27), none, .mov (.t 0)⟩, ⟨(some 28), none, .mov (.t 0)⟩, ⟨(some 29), none, .call 49 [(.t 28), (.k (.int .i64 20))]⟩, ⟨(some 30), none, .bin .add (.k (.int .i64 1)) (.t 29)⟩, ⟨(some 31), none, .call 52 [(.t 27), (.t 30)]⟩, ⟨(some 32), none, .fad 2 (.t 5)⟩, ⟨none, none, .store 6 (.t 32) (.t 31)⟩]) (.seq (.reg false [⟨(some 33), none, .load 8 true (.t 5)⟩, ⟨none, none, .store 8 (.t 4) (.t 33)⟩]) .ret)) .skip)) (.seq (.reg false [⟨(some 34), none, .mov (.t 0)⟩, ⟨(some 35), none, .mov (.t 0)⟩, ⟨(some 36), none, .call 49 [(.t 35), (.k (.int .i64 8))]⟩, ⟨(some 37), none, .bin .add (.k (.int .i64 1)) (.t 36)⟩, ⟨(some 38), none, .call 52 [(.t 34), (.t 37)]⟩, ⟨(some 6), none, .alloc [(.int .i64 0), (.int .i64 0), (.int .i64 0), (.string ⟨#[]⟩), (.string ⟨#[]⟩), (.int .i64 0)]⟩, ⟨none, none, .store 6 (.t 6) (.t 38)⟩]) (.seq (.seq (.reg false [⟨(some 39), none, .fad 0 (.t 3)⟩, ⟨(some 40), none, .load 1 false (.t 39)⟩, ⟨(some 41), none, .len false (.t 40)⟩, ⟨(some 42), none, .bin .gtr (.t 41) (.k (.int .i64 0))⟩, ⟨(some 43), none, .mov (.t 42)⟩, ⟨(some 44), (some (43, true)), .mov (.t 0)⟩, ⟨(some 45), (some (43, true)), .call 42 [(.t 44), (.k (.int .i64 8))]⟩, ⟨(some 46), (some (43, true)), .not (.t 45)⟩, ⟨(some 47), none, .pick (.t 43) (.t 46) (.k (.bool false))⟩]) (.cond (.t 47) (.seq (.regN true [] [⟨(some 48), none, .fad 0 (.t 3)⟩, ⟨(some 49), none, .load 1 false (.t 48)⟩, ⟨(some 50), none, .mov (.t 0)⟩, ⟨(some 51), none, .fad 0 (.t 3)⟩, ⟨(some 52), none, .load 1 false (.t 51)⟩, ⟨(some 53), none, .len false (.t 52)⟩, ⟨(some 54), none, .call 49 [(.t 50), (.t 53)]⟩, ⟨(some 55), none, .iad 6 (.t 49) (.t 54)⟩, ⟨(some 56), none, .load 6 true (.t 55)⟩, ⟨(some 7), none, .alloc [(.int .i64 0), (.int .i64 0), (.int .i64 0), (.string ⟨#[]⟩), (.string ⟨#[]⟩), (.int .i64 0)]⟩, ⟨none, none, .store 6 (.t 7) (.t 56)⟩]) (.seq (.reg false [⟨(some 57), none, .fad 0 (.t 7)⟩, ⟨(some 58), none, .load 1 false (.t 57)⟩, ⟨(some 59), none, .fad 0 (.t 6)⟩, ⟨none, none, .store 1 (.t 59) (.t 58)⟩]) (.seq (.seq (.reg false [⟨(some 60), none, .mov (.t 0)⟩, ⟨(some 61), none, .call 42 [(.t 60), (.k (.int .i64 4))]⟩, ⟨(some 62), none, .not (.t 61)⟩]) (.cond (.t 62) (.reg false [⟨(some 63), none, .fad 3 (.t 7)⟩, ⟨(some 64), none, .load 1 false (.t 63)⟩, ⟨(some 65), none, .fad 3 (.t 6)⟩, ⟨none, none, .store 1 (.t 65) (.t 64)⟩]) .skip)) (.seq (.seq (.reg false [⟨(some 66), none, .fad 2 (.t 7)⟩, ⟨(some 67), none, .load 1 false (.t 66)⟩, ⟨(some 68), none, .bin .eql (.t 67) (.k (.int .i64 4))⟩, ⟨(some 69), none, .mov (.t 68)⟩, ⟨(some 70), (some (69, true)), .mov (.t 0)⟩, ⟨(some 71), (some (69, true)), .call 42 [(.t 70), (.k (.int .i64 6))]⟩, ⟨(some 72), (some (69, true)), .not (.t 71)⟩, ⟨(some 73), none, .pick (.t 69) (.t 72) (.k (.bool false))⟩]) (.cond (.t 73) (.reg false [⟨(some 74), none, .mov (.t 0)⟩, ⟨(some 75), none, .call 59 [(.t 74)]⟩, ⟨(some 76), none, .fad 4 (.t 6)⟩, ⟨none, none, .store 1 (.t 76) (.t 75)⟩]) .skip)) (.seq (.reg false [⟨(some 77), none, .fad 2 (.t 7)⟩, ⟨(some 78), none, .load 1 false (.t 77)⟩, ⟨(some 79), none, .bin .eql (.t 78) (.k (.int .i64 3))⟩, ⟨(some 80), none, .mov (.t 79)⟩, ⟨(some 81), (some (80, true)), .mov (.t 0)⟩, ⟨(some 82), (some (80, true)), .call 42 [(.t 81), (.k (.int .i64 2))]⟩, ⟨(some 83), none, .pick (.t 80) (.t 82) (.k (.bool false))⟩]) (.cond (.t 83) (.reg false [⟨(some 84), none, .fad 0 (.t 5)⟩, ⟨none, none, .store 1 (.t 84) (.k (.int .i64 5))⟩]) .skip)))))) .skip)) sD)))
def Jz : IC := (.seq (.reg false [⟨(some 3), none, .box (.t 1)⟩, ⟨(some 4), none, .alloc [(.int .i64 0), (.int .i64 0), (.int .i64 0), (.int .i64 0), (.int .i64 0), (.string ⟨#[]⟩), (.string ⟨#[]⟩), (.int .i64 0)]⟩]) (.seq (.reg false [⟨(some 8), none, .mov (.t 0)⟩, ⟨(some 9), none, .call 49 [(.t 8), (.k (.int .i64 6))]⟩, ⟨(some 10), none, .bin .add (.k (.int .i64 1)) (.t 9)⟩, ⟨(some 11), none, .mov (.t 0)⟩, ⟨(some 12), none, .call 49 [(.t 11), (.k (.int .i64 10))]⟩, ⟨(some 13), none, .bin .sub (.t 12) (.k (.int .i64 1))⟩, ⟨(some 14), none, .bld [(.int .i64 0), (.int .i64 0), (.int .i64 0), (.int .i64 0), (.int .i64 0), (.string ⟨#[]⟩), (.string ⟨#[]⟩), (.int .i64 0)] [(0, 1, (.t 10)), (1, 1, (.t 13))]⟩, ⟨(some 5), none, .alloc [(.int .i64 0), (.int .i64 0), (.int .i64 0), (.int .i64 0), (.int .i64 0), (.string ⟨#[]⟩), (.string ⟨#[]⟩), (.int .i64 0)]⟩, ⟨none, none, .store 8 (.t 5) (.t 14)⟩]) (.seq (.seq (.reg false [⟨(some 15), none, .fad 0 (.t 3)⟩, ⟨(some 16), none, .load 1 false (.t 15)⟩, ⟨(some 17), none, .len false (.t 16)⟩, ⟨(some 18), none, .bin .lss (.t 17) (.k (.int .i64 2))⟩, ⟨(some 19), none, .mov (.t 18)⟩, ⟨(some 20), (some (19, true)), .mov (.t 0)⟩, ⟨(some 21), (some (19, true)), .call 42 [(.t 20), (.k (.int .i64 2))]⟩, ⟨(some 22), none, .pick (.t 19) (.t 21) (.k (.bool false))⟩]) (.cond (.t 22) (.reg false [⟨(some 23), none, .fad 0 (.t 5)⟩, ⟨none, none, .store 1 (.t 23) (.k (.int .i64 1))⟩]) .skip)) sF)))
theorem Jy : aF Try.prog (Try.f43.body.getD .skip) = some Jz := by kernel_rfl
set_option maxRecDepth 8000 in
set_option maxHeartbeats 16000000 in
theorem VB (l : List UInt8) (i h k a : Int) (cs : List GCell) (xd xv xk : Int) (xm xc : ByteArray) (xn : Int) (hl : l.length ≤ 1048576) (hi0 : 0 ≤ i) (hi1 : i ≤ l.length) (hk : 0 ≤ k ∧ k ≤ 9) (ha : -1 ≤ a ∧ a ≤ 9) (hx : fQ 5000 ⟨xd, xv, xk, xm, xc, xn⟩) :
    eU (0, 1) Try.prog sD (kH (vH Try.prog (.cell 4 38) (fun r os' c' => (∃ e : GEdit, rV e ∧ r = .c true [.raw (.int .i64 e.kind), .raw (.int .i64 e.pos), .raw (.int .i64 e.cell.id), .raw (.int .i64 e.cell.ver), .raw (.int .i64 e.cell.kind), .raw (.string e.cell.name), .raw (.string e.cell.code), .raw (.int .i64 e.cell.n)]) ∧ os' = [] ∧ mJ l c'))) ⟨[.bptr 0 0, .any, .any, .any, .bptr 2 0, .bptr 3 0, .bptr 4 0, .any, .any, .any, .any, .any, .any, .any, .any, .any, .any, .any, .any, .any, .any, .any, .any, .any, .any, .any, .any, .any, .any, .any, .any, .any, .any, .any, .any, .any, .any, .any, .any, .any, .any, .any, .any, .any, .any, .any, .any, .any, .any, .any, .any, .any, .any, .any, .any, .any, .any, .any, .any, .any, .any, .any, .any, .any, .any, .any, .any, .any, .any, .any, .any, .any, .any, .any, .any, .any, .any, .any, .any, .any, .any, .any, .any, .any, .any, .any, .any, .any, .any, .any, .any, .any, .any, .any, .any, .any, .any, .any, .any, .any], [], [bQ l i h, [.sl false (cs.map GCell.toD)], [.raw (.int .i64 0), .raw (.int .i64 0), .raw (.int .i64 0), .raw (.int .i64 0), .raw (.int .i64 0), .raw (.string ⟨#[]⟩), .raw (.string ⟨#[]⟩), .raw (.int .i64 0)], [.raw (.int .i64 k), .raw (.int .i64 a), .raw (.int .i64 0), .raw (.int .i64 0), .raw (.int .i64 0), .raw (.string ⟨#[]⟩), .raw (.string ⟨#[]⟩), .raw (.int .i64 0)], [.raw (.int .i64 xd), .raw (.int .i64 xv), .raw (.int .i64 xk), .raw (.string xm), .raw (.string xc), .raw (.int .i64 xn)]]⟩ := by
  unfold sD
  have hw : ∀ z : Int, 0 ≤ z → z < 10 → IntKind.i64.wrap (1 + z) = 1 + z := fun z q1 q2 => jq (by omega) (by omega)
  repeat' (first | ((with_reducible refine hK _ ?_); clear hK K) | (with_reducible refine ak ?_ ?_) | ((with_reducible refine gi ?_); first | (refine aB ?_ ?_; rfl) | (refine aC ?_ ?_; (rfl; refine gF ?_)) | ((with_reducible refine gS rfl ?_ ?_) <;> (intro hb hb'; first | (exfalso; omega) | skip))) | ((with_reducible refine gxi ?_); first | (refine aO ?_ ?_; rfl) | (refine aP ?_ ?_; (rfl; refine gxF ?_)) | ((with_reducible refine gxS rfl ?_ ?_) <;> (intro hb hb'; first | (exfalso; omega) | skip))) | ((with_reducible refine aU ?_); first | (refine aN true (h := (aY l _ _ (10) (by first | assumption | omega) (by first | assumption | omega) hl (by decide))) (hK := ?_); rintro _ _ _ ⟨⟨n1, hn10, hn11, hn12, rfl⟩, rfl, i, h, hi0, hi1, rfl⟩) | (refine aN true (h := (aY l _ _ (9) (by first | assumption | omega) (by first | assumption | omega) hl (by decide))) (hK := ?_); rintro _ _ _ ⟨⟨n2, hn20, hn21, hn22, rfl⟩, rfl, i, h, hi0, hi1, rfl⟩) | (refine aN true (h := (lK l _ _ (20) (by first | assumption | omega) (by first | assumption | omega) hl (by decide))) (hK := ?_); rintro _ _ _ ⟨⟨b, rfl⟩, rfl, i, h, hi0, hi1, rfl⟩)) | ((with_reducible refine aH ?_); refine ss (XR tdC @gQ) ?_) | ((with_reducible refine bJ ?_); refine sx (XR tdC @gQ) ?_) | refine nv ?_ | (refine rD ?_; intro K hK) | (with_reducible (refine cS rfl ?_ ?_) <;> (intro hb hb'; first | (exfalso; omega) | skip)) | (exact GCell.el _) | exact aZ | exact aI)
  all_goals first
    | omega
    | (refine Wq rfl rfl rfl (by kernel_rfl) ?_
       intro e he
       refine ⟨⟨e, ?_, rfl⟩, rfl, _, _, ‹_›, ‹_›, rfl⟩
       subst he
       unfold rV
       simp only [fQ] at hx ⊢
       omega)
theorem TU (l : List UInt8) (i h k a : Int) (cs : List GCell) (xd xv xk : Int) (xm xc : ByteArray) (xn : Int) (hl : l.length ≤ 1048576) (hi0 : 0 ≤ i) (hi1 : i ≤ l.length) (hk : 0 ≤ k ∧ k ≤ 9) (ha : -1 ≤ a ∧ a ≤ 9) (hx : fQ 5000 ⟨xd, xv, xk, xm, xc, xn⟩) {st : St} (hle : gu st ⟨[.bptr 0 0, .any, .any, .any, .bptr 2 0, .bptr 3 0, .bptr 4 0, .any, .any, .any, .any, .any, .any, .any, .any, .any, .any, .any, .any, .any, .any, .any, .any, .any, .any, .any, .any, .any, .any, .any, .any, .any, .any, .any, .any, .any, .any, .any, .any, .any, .any, .any, .any, .any, .any, .any, .any, .any, .any, .any, .any, .any, .any, .any, .any, .any, .any, .any, .any, .any, .any, .any, .any, .any, .any, .any, .any, .any, .any, .any, .any, .any, .any, .any, .any, .any, .any, .any, .any, .any, .any, .any, .any, .any, .any, .any, .any, .any, .any, .any, .any, .any, .any, .any, .any, .any, .any, .any, .any, .any], [], [bQ l i h, [.sl false (cs.map GCell.toD)], [.raw (.int .i64 0), .raw (.int .i64 0), .raw (.int .i64 0), .raw (.int .i64 0), .raw (.int .i64 0), .raw (.string ⟨#[]⟩), .raw (.string ⟨#[]⟩), .raw (.int .i64 0)], [.raw (.int .i64 k), .raw (.int .i64 a), .raw (.int .i64 0), .raw (.int .i64 0), .raw (.int .i64 0), .raw (.string ⟨#[]⟩), .raw (.string ⟨#[]⟩), .raw (.int .i64 0)], [.raw (.int .i64 xd), .raw (.int .i64 xv), .raw (.int .i64 xk), .raw (.string xm), .raw (.string xc), .raw (.int .i64 xn)]]⟩) :
    eU (0, 1) Try.prog sD (kH (vH Try.prog (.cell 4 38) (fun r os' c' => (∃ e : GEdit, rV e ∧ r = .c true [.raw (.int .i64 e.kind), .raw (.int .i64 e.pos), .raw (.int .i64 e.cell.id), .raw (.int .i64 e.cell.ver), .raw (.int .i64 e.cell.kind), .raw (.string e.cell.name), .raw (.string e.cell.code), .raw (.int .i64 e.cell.n)]) ∧ os' = [] ∧ mJ l c'))) st := EX (wR hle) (Nat.zero_le _) (by simp) (VB l i h k a cs xd xv xk xm xc xn hl hi0 hi1 hk ha hx)
theorem Xz {cs : List GCell} {j : Nat} (h : j < cs.length) : idx (cs.map GCell.toD) (some (j : Int)) = some (cs[j]).toD := dR GCell.toD cs h
set_option maxRecDepth 8000 in
set_option maxHeartbeats 32000000 in
theorem VD (l : List UInt8) (i h k a : Int) (cs : List GCell) (hl : l.length ≤ 1048576) (hi0 : 0 ≤ i) (hi1 : i ≤ l.length) (hk : 0 ≤ k ∧ k ≤ 9) (ha : -1 ≤ a ∧ a ≤ 9) (hcs : cs.length ≤ 9) (hall : ∀ x ∈ cs, fQ 5000 x) :
    eU (0, 1) Try.prog sF (kH (vH Try.prog (.cell 4 38) (fun r os' c' => (∃ e : GEdit, rV e ∧ r = .c true [.raw (.int .i64 e.kind), .raw (.int .i64 e.pos), .raw (.int .i64 e.cell.id), .raw (.int .i64 e.cell.ver), .raw (.int .i64 e.cell.kind), .raw (.string e.cell.name), .raw (.string e.cell.code), .raw (.int .i64 e.cell.n)]) ∧ os' = [] ∧ mJ l c'))) ⟨[.bptr 0 0, .any, .any, .bptr 1 0, .bptr 2 0, .bptr 3 0, .any, .any, .any, .any, .any, .any, .any, .any, .any, .any, .any, .any, .any, .any, .any, .any, .any, .any, .any, .any, .any, .any, .any, .any, .any, .any, .any, .any, .any, .any, .any, .any, .any, .any, .any, .any, .any, .any, .any, .any, .any, .any, .any, .any, .any, .any, .any, .any, .any, .any, .any, .any, .any, .any, .any, .any, .any, .any, .any, .any, .any, .any, .any, .any, .any, .any, .any, .any, .any, .any, .any, .any, .any, .any, .any, .any, .any, .any, .any, .any, .any, .any, .any, .any, .any, .any, .any, .any, .any, .any, .any, .any, .any, .any], [], [bQ l i h, [.sl false (cs.map GCell.toD)], [.raw (.int .i64 0), .raw (.int .i64 0), .raw (.int .i64 0), .raw (.int .i64 0), .raw (.int .i64 0), .raw (.string ⟨#[]⟩), .raw (.string ⟨#[]⟩), .raw (.int .i64 0)], [.raw (.int .i64 k), .raw (.int .i64 a), .raw (.int .i64 0), .raw (.int .i64 0), .raw (.int .i64 0), .raw (.string ⟨#[]⟩), .raw (.string ⟨#[]⟩), .raw (.int .i64 0)]]⟩ := by
  unfold sF
  have hw : ∀ z : Int, 0 ≤ z → z < 20 → IntKind.i64.wrap (1 + z) = 1 + z := fun z q1 q2 => jq (by omega) (by omega)
  repeat' (first | ((with_reducible refine aG ?_); intro K hK) | ((first | ((with_reducible refine bK false ?_ ?_); rfl) | ((with_reducible refine bK true ?_ ?_); rfl)); intro K hK) | ((first | (with_reducible refine bT 0 false fB ?_) | (refine bT 0 false (by simp [iC, St.ev]) ?_)); intro K hK) | refine nN ?_ | ((with_reducible refine hK _ ?_); clear hK K) | (with_reducible refine ak ?_ ?_) | ((with_reducible refine gi ?_); first | (refine aB ?_ ?_; rfl) | (refine aC ?_ ?_; (rfl; refine gF ?_)) | ((with_reducible refine gS rfl ?_ ?_) <;> (intro hb hb'; first | (exfalso; omega) | skip))) | ((with_reducible refine gxi ?_); first | (refine aO ?_ ?_; rfl) | (refine aP ?_ ?_; (rfl; refine gxF ?_)) | ((with_reducible refine gxS rfl ?_ ?_) <;> (intro hb hb'; first | (exfalso; omega) | skip))) | ((with_reducible refine aU ?_); first | (refine aN true (h := (aY l _ _ (20) (by first | assumption | omega) (by first | assumption | omega) hl (by decide))) (hK := ?_); rintro _ _ _ ⟨⟨n1, hn10, hn11, hn12, rfl⟩, rfl, i, h, hi0, hi1, rfl⟩) | (refine aN true (h := (aY l _ _ (8) (by first | assumption | omega) (by first | assumption | omega) hl (by decide))) (hK := ?_); rintro _ _ _ ⟨⟨n1, hn10, hn11, hn12, rfl⟩, rfl, i, h, hi0, hi1, rfl⟩) | (refine aN true (h := (lK l _ _ (8) (by first | assumption | omega) (by first | assumption | omega) hl (by decide))) (hK := ?_); rintro _ _ _ ⟨⟨b, rfl⟩, rfl, i, h, hi0, hi1, rfl⟩) | (refine aN true (h := (lK l _ _ (4) (by first | assumption | omega) (by first | assumption | omega) hl (by decide))) (hK := ?_); rintro _ _ _ ⟨⟨b, rfl⟩, rfl, i, h, hi0, hi1, rfl⟩) | (refine aN true (h := (lK l _ _ (6) (by first | assumption | omega) (by first | assumption | omega) hl (by decide))) (hK := ?_); rintro _ _ _ ⟨⟨b, rfl⟩, rfl, i, h, hi0, hi1, rfl⟩) | (refine aN true (h := (lK l _ _ (2) (by first | assumption | omega) (by first | assumption | omega) hl (by decide))) (hK := ?_); rintro _ _ _ ⟨⟨b, rfl⟩, rfl, i, h, hi0, hi1, rfl⟩) | (refine aN true (h := (Ag l _ _ _ (by first | assumption | omega) (by first | assumption | omega) hl (by constructor <;> omega))) (hK := ?_); rintro _ _ _ ⟨⟨x, hx, hxi, rfl⟩, rfl, i, h, hi0, hi1, rfl⟩) | (refine aN true (h := (MG l _ _ (by first | assumption | omega) (by first | assumption | omega) hl)) (hK := ?_); rintro _ _ _ ⟨⟨s, hs, rfl⟩, rfl, i, h, hi0, hi1, rfl⟩) | (refine aN true (h := (lu l _ _ (cs.length) (by assumption) (by assumption) hl (by omega) (by omega))) (hK := ?_); rintro _ _ _ ⟨⟨j, hj, rfl⟩, rfl, i, h, hi0, hi1, rfl⟩)) | ((with_reducible refine jy ?_); first | (refine jA true (h := (lu l _ _ (cs.length) (by assumption) (by assumption) hl (by omega) (by omega))) (hne := ⟨_, [], bQ l 0 0, ⟨⟨0, by omega, rfl⟩, rfl, 0, 0, by omega, by omega, rfl⟩, rfl⟩) (hr := ?_); rintro _ _ _ ⟨⟨j, hj, rfl⟩, rfl, i, h, hi0, hi1, rfl⟩)) | ((with_reducible refine aH ?_); refine ss (XR tdC (XR @gQ (XR hw @Xz))) ?_) | ((with_reducible refine bJ ?_); refine sx (XR tdC (XR @gQ (XR hw @Xz))) ?_) | refine nv ?_ | (with_reducible (refine cS rfl ?_ ?_) <;> (intro hb hb'; first | (exfalso; omega) | skip)) | (exact GCell.el _) | exact aZ | exact aI)
  all_goals try omega
  all_goals first
    | (refine Wq rfl rfl rfl (by kernel_rfl) ?_
       intro e he
       refine ⟨⟨e, ?_, rfl⟩, rfl, _, _, ‹_›, ‹_›, rfl⟩
       subst he
       unfold rV fQ
       unfold fQ at hx
       simp only
       omega)
    | (try have hcj := hall _ (List.getElem_mem hj)
       refine TU l _ _ _ _ cs _ _ _ _ _ _ hl (by assumption) (by assumption) (by omega) ha ?cb ⟨?fr, trivial, ⟨rfl, rfl, rfl, rfl, rfl, trivial⟩, ?ft⟩
       case fr => simp [je, AV.fits, AC.fits]
       case ft => simp [AC.fits, bQ]
       case cb =>
         unfold fQ at hx ⊢
         try unfold fQ at hcj
         simp only
         omega)
theorem TV (l : List UInt8) (i h k a : Int) (cs : List GCell) (hl : l.length ≤ 1048576) (hi0 : 0 ≤ i) (hi1 : i ≤ l.length) (hk : 0 ≤ k ∧ k ≤ 9) (ha : -1 ≤ a ∧ a ≤ 9) (hcs : cs.length ≤ 9) (hall : ∀ x ∈ cs, fQ 5000 x) {st : St} (hle : gu st ⟨[.bptr 0 0, .any, .any, .bptr 1 0, .bptr 2 0, .bptr 3 0, .any, .any, .any, .any, .any, .any, .any, .any, .any, .any, .any, .any, .any, .any, .any, .any, .any, .any, .any, .any, .any, .any, .any, .any, .any, .any, .any, .any, .any, .any, .any, .any, .any, .any, .any, .any, .any, .any, .any, .any, .any, .any, .any, .any, .any, .any, .any, .any, .any, .any, .any, .any, .any, .any, .any, .any, .any, .any, .any, .any, .any, .any, .any, .any, .any, .any, .any, .any, .any, .any, .any, .any, .any, .any, .any, .any, .any, .any, .any, .any, .any, .any, .any, .any, .any, .any, .any, .any, .any, .any, .any, .any, .any, .any], [], [bQ l i h, [.sl false (cs.map GCell.toD)], [.raw (.int .i64 0), .raw (.int .i64 0), .raw (.int .i64 0), .raw (.int .i64 0), .raw (.int .i64 0), .raw (.string ⟨#[]⟩), .raw (.string ⟨#[]⟩), .raw (.int .i64 0)], [.raw (.int .i64 k), .raw (.int .i64 a), .raw (.int .i64 0), .raw (.int .i64 0), .raw (.int .i64 0), .raw (.string ⟨#[]⟩), .raw (.string ⟨#[]⟩), .raw (.int .i64 0)]]⟩) :
    eU (0, 1) Try.prog sF (kH (vH Try.prog (.cell 4 38) (fun r os' c' => (∃ e : GEdit, rV e ∧ r = .c true [.raw (.int .i64 e.kind), .raw (.int .i64 e.pos), .raw (.int .i64 e.cell.id), .raw (.int .i64 e.cell.ver), .raw (.int .i64 e.cell.kind), .raw (.string e.cell.name), .raw (.string e.cell.code), .raw (.int .i64 e.cell.n)]) ∧ os' = [] ∧ mJ l c'))) st := EX (wR hle) (Nat.zero_le _) (by simp) (VD l i h k a cs hl hi0 hi1 hk ha hcs hall)
set_option maxRecDepth 8000 in
set_option maxHeartbeats 16000000 in
theorem AA (l : List UInt8) (i h : Int) (cs : List GCell) (h0 : 0 ≤ i) (h1 : i ≤ l.length) (hl : l.length ≤ 1048576) (hcs : cs.length ≤ 9) (hall : ∀ x ∈ cs, fQ 5000 x) : eP Try.prog 43 [(⟨cs⟩ : GNb).toD] (bQ l i h) (fun r os' c' => (∃ e : GEdit, rV e ∧ r = .c true [.raw (.int .i64 e.kind), .raw (.int .i64 e.pos), .raw (.int .i64 e.cell.id), .raw (.int .i64 e.cell.ver), .raw (.int .i64 e.cell.kind), .raw (.string e.cell.name), .raw (.string e.cell.code), .raw (.int .i64 e.cell.n)]) ∧ os' = [] ∧ mJ l c') := by
  refine iY (fn := Try.f43) (r := .cell 4 38) (by kernel_rfl) (by kernel_rfl) (by kernel_rfl) Jy ?_
  unfold Jz bQ
  change eU _ _ _ _ (stS 100 _ _ _)
  refine sS tdX ?_
  try simp only [GNb.bH, GNb.bV]
  have hw : ∀ z : Int, 0 ≤ z → z < 6 → IntKind.i64.wrap (1 + z) = 1 + z := fun z q1 q2 => jq (by omega) (by omega)
  have hw2 : ∀ z : Int, 0 ≤ z → z < 10 → IntKind.i64.wrap (z - 1) = z - 1 := fun z q1 q2 => jq (by omega) (by omega)
  repeat' (first | ((with_reducible refine hK _ ?_); clear hK K) | (with_reducible refine ak ?_ ?_) | ((with_reducible refine gi ?_); first | (refine aB ?_ ?_; rfl) | (refine aC ?_ ?_; (rfl; refine gF ?_)) | ((with_reducible refine gS rfl ?_ ?_) <;> (intro hb hb'; first | (exfalso; omega) | skip))) | ((with_reducible refine gxi ?_); first | (refine aO ?_ ?_; rfl) | (refine aP ?_ ?_; (rfl; refine gxF ?_)) | ((with_reducible refine gxS rfl ?_ ?_) <;> (intro hb hb'; first | (exfalso; omega) | skip))) | ((with_reducible refine aU ?_); first | (refine aN true (h := (aY l _ _ (6) (by first | assumption | omega) (by first | assumption | omega) hl (by decide))) (hK := ?_); rintro _ _ _ ⟨⟨kd, hkd0, hkd1, hkd2, rfl⟩, rfl, i, h, hi0, hi1, rfl⟩) | (refine aN true (h := (aY l _ _ (10) (by first | assumption | omega) (by first | assumption | omega) hl (by decide))) (hK := ?_); rintro _ _ _ ⟨⟨ad, had0, had1, had2, rfl⟩, rfl, i, h, hi0, hi1, rfl⟩) | (refine aN true (h := (lK l _ _ (2) (by first | assumption | omega) (by first | assumption | omega) hl (by decide))) (hK := ?_); rintro _ _ _ ⟨⟨b, rfl⟩, rfl, i, h, hi0, hi1, rfl⟩)) | ((with_reducible refine aH ?_); refine ss (XR tdC (XR @gQ (XR hw hw2))) ?_) | ((with_reducible refine bJ ?_); refine sx (XR tdC (XR @gQ (XR hw hw2))) ?_) | refine nv ?_ | (refine rD ?_; intro K hK) | (with_reducible (refine cS rfl ?_ ?_) <;> (intro hb hb'; first | (exfalso; omega) | skip)) | (exact GCell.el _) | exact aZ | exact aI)
  all_goals
    (refine TV l _ _ _ _ cs hl (by assumption) (by assumption) (by omega) (by omega) hcs hall ⟨?fr, trivial, ⟨rfl, rfl, rfl, rfl, trivial⟩, ?ft⟩
     case fr => simp [je, AV.fits, AC.fits]
     case ft => simp [AC.fits, bQ])
def edF (e : GEdit) : D := .agg [.leaf (.int .i64 e.kind), .leaf (.int .i64 e.pos), .leaf (.int .i64 e.cell.id), .leaf (.int .i64 e.cell.ver), .leaf (.int .i64 e.cell.kind), .leaf (.string e.cell.name), .leaf (.string e.cell.code), .leaf (.int .i64 e.cell.n)]
theorem yU (l : List GEdit) : El 8 (l.map edF) := fun d hd => by
  obtain ⟨e, _, rfl⟩ := List.mem_map.1 hd
  exact ⟨by simp [edF, D.one, D.ones, Value.oneCell'], by simp [edF, D.sz, D.szs]⟩
theorem yL {n : Int} (h0 : -9000000000000000000 ≤ n) (h1 : n ≤ 9000000000000000000) : (li n).wf := by
  show (decide (IntKind.i64.min ≤ n) && decide (n ≤ IntKind.i64.max)) = true
  rw [show IntKind.i64.min = -9223372036854775808 from rfl, show IntKind.i64.max = 9223372036854775807 from rfl]
  simp
  omega
theorem ES {x : GCell} (h : fQ 5000 x) : x.toD.wf := by
  obtain ⟨h1, h2, h3, h4, h5, h6⟩ := h
  refine ⟨yL (by omega) (by omega), yL (by omega) (by omega), yL (by omega) (by omega), ?_, ?_, yL (by omega) (by omega), trivial⟩
  · show x.name.size ≤ maxLen
    unfold maxLen; omega
  · show x.code.size ≤ maxLen
    unfold maxLen; omega
theorem J5 {e : GEdit} (h : rV e) : e.toD.wf := ⟨yL (by have := h.1; omega) (by have := h.1; omega), yL (by have := h.2.1; omega) (by have := h.2.1; omega), ES h.2.2, trivial⟩
theorem TW : rV ⟨0, 0, ⟨0, 0, 0, ⟨#[]⟩, ⟨#[]⟩, 0⟩⟩ := by
  unfold rV fQ
  simp only [szA]
  decide
theorem Fa {l : List GCell} {e : GEdit} (h : ∀ x ∈ l, fQ 5000 x) (he : rV e) : ∀ x ∈ (app l e).1, fQ 5000 x := by
  have hc : fQ 5000 e.cell := he.2.2
  cases hv : (dB l && inR e.kind 1 6) with
  | false => unfold app; rw [hv]; exact h
  | true =>
    have ha : app l e = chg l e := by unfold app; rw [if_pos hv]
    rw [ha]
    simp only [Bool.and_eq_true] at hv
    have hput : ∀ (r : List GCell) (k : Nat) (c : GCell), (∀ x ∈ r, fQ 5000 x) → fQ 5000 c → ∀ x ∈ l7 r k c, fQ 5000 x := by
      intro r k c hr hcw x hx
      unfold l7 at hx
      simp only [List.mem_append, List.mem_singleton] at hx
      rcases hx with (hx | rfl) | hx
      · exact hr x (List.mem_of_mem_take hx)
      · exact hcw
      · exact hr x (List.mem_of_mem_drop hx)
    have hdrop : ∀ (k : Nat), ∀ x ∈ gV l k, fQ 5000 x := by
      intro k x hx
      unfold gV at hx
      simp only [List.mem_append] at hx
      rcases hx with hx | hx
      · exact h x (List.mem_of_mem_take hx)
      · exact h x (List.mem_of_mem_drop hx)
    have hnew : ∀ x ∈ l, fQ 5000 (bg x e) := by
      intro x hx
      have h1 := h x hx
      obtain ⟨k, hk, rfl⟩ := List.mem_iff_getElem.1 hx
      have h2 := nD (nG hv.1 hk)
      unfold bg
      unfold fQ at h1 hc ⊢
      split
      · simp only; omega
      · split
        · simp only; omega
        · simp only; omega
    unfold chg
    repeat' split
    all_goals first
      | exact h
      | exact hput _ _ _ h hc
      | exact hdrop _
      | (refine hput _ _ _ (hdrop _) ?_; exact h _ (List.mem_of_getElem? (by assumption)))
      | (intro y hy
         rcases List.mem_or_eq_of_mem_set hy with hy | rfl
         · exact h y hy
         · exact hnew _ (List.mem_of_getElem? (by assumption)))
theorem Gw {P : Program} {t ty b k v e s t2 ty2 b2 : Nat} {nw : Nw} {st : St} {cs : List GCell} {a1 a2 a3 a4 a5 a8 : Int} {a6 a7 : ByteArray} {post : AV → List Own → Prop} (h1 : st.fr.getD t .any = .bptr b 0) (h2 : st.boxes[b]? = some [.own k v]) (ho : st.owns[k]? = some ⟨cs.map GCell.toD, e, s, v, nw⟩)
    (g1 : st.fr.getD t2 .any = .bptr b2 0) (g2 : st.boxes[b2]? = some [.raw (.int .i64 a1), .raw (.int .i64 a2), .raw (.int .i64 a3), .raw (.int .i64 a4), .raw (.int .i64 a5), .raw (.string a6), .raw (.string a7), .raw (.int .i64 a8)])
    (hp : dY P (.cell t ty) true 1 = true) (hp2 : dY P (.cell t2 ty2) true 8 = true) (hq : post (.tup [(true, [.own 0 0]), (true, [.raw (.int .i64 a1), .raw (.int .i64 a2), .raw (.int .i64 a3), .raw (.int .i64 a4), .raw (.int .i64 a5), .raw (.string a6), .raw (.string a7), .raw (.int .i64 a8)])]) [⟨cs.map GCell.toD, e, s, 0, ⟨true, true⟩⟩]) : kH (WC P (.cell t ty) (.cell t2 ty2) post) .ret st :=
  ⟨true, true, [.own 0 0], _, _, [k], hq, rfl, rfl, by simp, ⟨⟨_, ho, rfl, Or.inr (Wp cs)⟩, trivial⟩, hp, hp2, ⟨b, _, h1, h2, ⟨rfl, rfl, _, ho, rfl⟩, trivial⟩, ⟨b2, _, g1, g2, ⟨rfl, rfl, rfl, rfl, rfl, rfl, rfl, rfl, trivial⟩⟩⟩
def EC : IC := (.seq (.reg false [⟨(some 2), none, .alloc [(.slice none 0 0)]⟩, ⟨(some 3), none, .alloc [(.int .i64 0), (.int .i64 0), (.int .i64 0), (.int .i64 0), (.int .i64 0), (.string ⟨#[]⟩), (.string ⟨#[]⟩), (.int .i64 0)]⟩]) (.seq (.reg false [⟨(some 6), none, .mov (.t 0)⟩, ⟨(some 7), none, .call 31 [(.t 6)]⟩, ⟨(some 4), none, .mov (.t 7)⟩]) (.seq (.reg false [⟨(some 8), none, .mov (.t 4)⟩, ⟨(some 9), none, .call 41 [(.t 8), (.k (.int .i64 8))]⟩, ⟨(some 5), none, .alloc [(.slice none 0 0)]⟩, ⟨none, none, .store 1 (.t 5) (.t 9)⟩]) (.seq (.seq (.reg false [⟨(some 10), none, .mov (.t 4)⟩, ⟨(some 11), none, .call 42 [(.t 10), (.k (.int .i64 10))]⟩]) (.cond (.t 11) (.reg false [⟨(some 12), none, .mov (.t 4)⟩, ⟨(some 13), none, .call 30 [(.t 12)]⟩, ⟨none, none, .store 1 (.t 5) (.t 13)⟩]) .skip)) (.seq (.regN true [] [⟨(some 14), none, .load 1 true (.t 5)⟩, ⟨(some 15), none, .mov (.t 4)⟩, ⟨(some 16), none, .load 1 true (.t 5)⟩, ⟨(some 17), none, .call 43 [(.t 15), (.t 16)]⟩, ⟨none, none, .store 1 (.t 2) (.t 14)⟩, ⟨none, none, .store 8 (.t 3) (.t 17)⟩]) .ret)))))
theorem Gp : aF Try.prog (Try.f22.body.getD .skip) = some EC := by kernel_rfl
set_option maxRecDepth 8000 in
set_option maxHeartbeats 16000000 in
theorem J6 (l : List UInt8) (hl : l.length ≤ 1048576) : fA Try.prog 22 [.sl (l.map lu8)] (fun r os' => ∃ (cs : List GCell) (e : GEdit), cs.length ≤ 9 ∧ (∀ x ∈ cs, fQ 5000 x) ∧ rV e ∧ r = .tup [(true, [.own 0 0]), (true, [.raw (.int .i64 e.kind), .raw (.int .i64 e.pos), .raw (.int .i64 e.cell.id), .raw (.int .i64 e.cell.ver), .raw (.int .i64 e.cell.kind), .raw (.string e.cell.name), .raw (.string e.cell.code), .raw (.int .i64 e.cell.n)])] ∧ os' = [⟨cs.map GCell.toD, 31, 6, 0, ⟨true, true⟩⟩]) := by
  refine EU (fn := Try.f22) (r := .cell 2 26) (q := .cell 3 38) (by kernel_rfl) (by kernel_rfl) (by kernel_rfl) Gp ?_
  unfold EC
  change AWP _ _ _ (st0 18 _)
  refine sS tdX ?_
  repeat' (first | ((with_reducible refine hK _ ?_); clear hK K) | (with_reducible refine ak ?_ ?_) | ((with_reducible refine aU ?_); first | ((refine Ky (Xv l _ _ _ hl (by simp [AC.fits]) (by simp [AC.fits])) ?_); rintro _ _ _ ⟨rfl, rfl, h, rfl⟩) | (refine aN false (h := (MF l _ _ 8 (by first | assumption | omega) (by first | assumption | omega) hl (by decide))) (hK := ?_); rintro _ _ _ ⟨⟨cs, hcs, hall, rfl, rfl⟩, i, h, hi0, hi1, rfl⟩)) | ((with_reducible refine aH ?_); refine ss (XR tdC @gQ) ?_) | ((with_reducible refine bJ ?_); refine sx (XR tdC @gQ) ?_) | refine nv ?_ | (refine rD ?_; intro K hK) | (with_reducible (refine cS rfl ?_ ?_) <;> (intro hb hb'; first | (exfalso; omega) | skip)) | (exact GCell.el _) | (exact yU [⟨_, _, ⟨_, _, _, _, _, _⟩⟩]) | (exact yU [_]) | exact aZ | exact aI)
  have hallcs : ∀ x ∈ cs, fQ 5000 x := fun x hx => (hall x hx).mono (by decide)
  repeat' (first | ((with_reducible refine aG ?_); intro K hK) | ((first | ((with_reducible refine bK false ?_ ?_); rfl) | ((with_reducible refine bK true ?_ ?_); rfl)); intro K hK) | ((first | (with_reducible refine bT 2 false fB ?_) | (refine bT 2 false (by simp [iC, St.ev]) ?_)); intro K hK) | refine nN ?_ | ((with_reducible refine hK _ ?_); clear hK K) | (with_reducible refine ak ?_ ?_) | ((with_reducible refine aU ?_); first | (refine aN false (h := (lK l _ _ (10) (by first | assumption | omega) (by first | assumption | omega) hl (by decide))) (hK := ?_); rintro _ _ _ ⟨⟨b, rfl⟩, rfl, i, h, hi0, hi1, rfl⟩) | (refine aN false (h := (UK l _ _ (by first | assumption | omega) (by first | assumption | omega) hl)) (hK := ?_); rintro _ _ _ ⟨⟨ds, hds, hallds, rfl, rfl⟩, i, h, hi0, hi1, rfl⟩) | (refine aN false (h := (AA l _ _ ds (by first | assumption | omega) (by first | assumption | omega) hl (by omega) hallds)) (hK := ?_); rintro _ _ _ ⟨⟨e, he, rfl⟩, rfl, i, h, hi0, hi1, rfl⟩) | (refine aN false (h := (AA l _ _ cs (by first | assumption | omega) (by first | assumption | omega) hl (by omega) hallcs)) (hK := ?_); rintro _ _ _ ⟨⟨e, he, rfl⟩, rfl, i, h, hi0, hi1, rfl⟩)) | ((with_reducible refine jy ?_); first | (refine jA false (h := (AA l _ _ ds (by first | assumption | omega) (by first | assumption | omega) hl (by omega) hallds)) (hne := ⟨_, [], bQ l 0 0, ⟨⟨⟨0, 0, ⟨0, 0, 0, ⟨#[]⟩, ⟨#[]⟩, 0⟩⟩, TW, rfl⟩, rfl, 0, 0, by omega, by omega, rfl⟩, rfl⟩) (hr := ?_); rintro _ _ _ ⟨⟨e, he, rfl⟩, rfl, i, h, hi0, hi1, rfl⟩) | (refine jA false (h := (AA l _ _ cs (by first | assumption | omega) (by first | assumption | omega) hl (by omega) hallcs)) (hne := ⟨_, [], bQ l 0 0, ⟨⟨⟨0, 0, ⟨0, 0, 0, ⟨#[]⟩, ⟨#[]⟩, 0⟩⟩, TW, rfl⟩, rfl, 0, 0, by omega, by omega, rfl⟩, rfl⟩) (hr := ?_); rintro _ _ _ ⟨⟨e, he, rfl⟩, rfl, i, h, hi0, hi1, rfl⟩)) | ((with_reducible refine aH ?_); refine ss (XR tdC @gQ) ?_) | ((with_reducible refine bJ ?_); refine sx (XR tdC @gQ) ?_) | refine nv ?_ | (with_reducible (refine cS rfl ?_ ?_) <;> (intro hb hb'; first | (exfalso; omega) | skip)) | (exact GCell.el _) | (exact yU [⟨_, _, ⟨_, _, _, _, _, _⟩⟩]) | (exact yU [_]) | exact aZ | exact aI)
  all_goals first
    | exact Gw rfl rfl rfl rfl rfl (by kernel_rfl) (by kernel_rfl) ⟨cs, e, by omega, hallcs, he, rfl, rfl⟩
    | exact Gw rfl rfl rfl rfl rfl (by kernel_rfl) (by kernel_rfl) ⟨ds, e, by omega, hallds, he, rfl, rfl⟩
def Cb : IC := (.seq (.reg false [⟨(some 2), none, .alloc [(.slice none 0 0)]⟩, ⟨(some 3), none, .alloc [(.int .i64 0), (.int .i64 0), (.int .i64 0), (.int .i64 0), (.int .i64 0), (.string ⟨#[]⟩), (.string ⟨#[]⟩), (.int .i64 0)]⟩]) (.seq (.reg false [⟨(some 4), none, .mov (.t 0)⟩, ⟨(some 5), none, .call 22 [(.t 4)]⟩, ⟨(some 6), none, .ext 0 (.t 5)⟩, ⟨(some 7), none, .ext 1 (.t 5)⟩, ⟨none, none, .store 1 (.t 2) (.t 6)⟩, ⟨none, none, .store 8 (.t 3) (.t 7)⟩]) .ret))
theorem DU : aF Try.prog (Try.f19.body.getD .skip) = some Cb := by kernel_rfl
set_option maxRecDepth 8000 in
set_option maxHeartbeats 16000000 in
theorem P6 (l : List UInt8) (hl : l.length ≤ 1048576) : fA Try.prog 19 [.sl (l.map lu8)] (fun r os' => ∃ (cs : List GCell) (e : GEdit), cs.length ≤ 9 ∧ (∀ x ∈ cs, fQ 5000 x) ∧ rV e ∧ r = .tup [(true, [.own 0 0]), (true, [.raw (.int .i64 e.kind), .raw (.int .i64 e.pos), .raw (.int .i64 e.cell.id), .raw (.int .i64 e.cell.ver), .raw (.int .i64 e.cell.kind), .raw (.string e.cell.name), .raw (.string e.cell.code), .raw (.int .i64 e.cell.n)])] ∧ os' = [⟨cs.map GCell.toD, 31, 6, 0, ⟨true, true⟩⟩]) := by
  refine EU (fn := Try.f19) (r := .cell 2 26) (q := .cell 3 38) (by kernel_rfl) (by kernel_rfl) (by kernel_rfl) DU ?_
  unfold Cb
  change AWP _ _ _ (st0 8 _)
  refine sS tdX ?_
  repeat' (first | ((with_reducible refine aG ?_); intro K hK) | ((with_reducible refine hK _ ?_); clear hK K) | (with_reducible refine ak ?_ ?_) | ((with_reducible refine aU ?_); first | (refine iw (h := (J6 l hl)) (hK := ?_); rintro _ _ ⟨cs, e, hcs, hall, he, rfl, rfl⟩)) | ((with_reducible refine aH ?_); refine ss (XR tdC @gQ) ?_) | refine nv ?_ | (with_reducible (refine cS rfl ?_ ?_) <;> (intro hb hb'; first | (exfalso; omega) | skip)) | (exact GCell.el _) | (exact yU [⟨_, _, ⟨_, _, _, _, _, _⟩⟩]) | (exact yU [_]) | exact aZ | exact aI)
  exact Gw rfl rfl rfl rfl rfl (by kernel_rfl) (by kernel_rfl) ⟨cs, e, hcs, hall, he, rfl, rfl⟩
theorem rO : ∀ {cs : List GCell}, (∀ x ∈ cs, fQ 5000 x) → D.wfs (cs.map GCell.toD)
  | [], _ => trivial
  | x :: cs, h => ⟨ES (h x (by simp)), rO fun y hy => h y (by simp [hy])⟩
end Go.Proofs.Ytnongnchpplacaa

