/-
  Texts joined: Draw4 Draw5 Draw6 Draw7.
-/
import Derived.Test.YtnongnchpplacaaJV
import Derived.Test.YtnongnchpplacaaJE
import Derived.Test.YtnongnchpplacaaJO
namespace Go.Proofs.Ytnongnchpplacaa
open Go.RowKit
set_option linter.unusedSimpArgs false
set_option linter.unusedVariables false
def fF (W : Nat) (x : GCell) : Prop := (-1000000 - (W : Int) ≤ x.id ∧ x.id ≤ 1000000 + (W : Int)) ∧ (0 ≤ x.ver ∧ x.ver ≤ 1000000 + (W : Int)) ∧ (-1000000 - (W : Int) ≤ x.kind ∧ x.kind ≤ 1000000 + (W : Int)) ∧ (-1000000 - (W : Int) ≤ x.n ∧ x.n ≤ 1000000 + (W : Int)) ∧ x.name.size ≤ 1000 ∧ x.code.size ≤ W
theorem fF.mono {W W' : Nat} {x : GCell} (h : fF W x) (hW : W ≤ W') : fF W' x := by
  unfold fF at h ⊢
  omega
abbrev dC (i v k : Int) (m c : ByteArray) (n : Int) : D := .agg [.leaf (.int .i64 i), .leaf (.int .i64 v), .leaf (.int .i64 k), .leaf (.string m), .leaf (.string c), .leaf (.int .i64 n)]
theorem FH (i v k : Int) (m c : ByteArray) (n : Int) : (dC i v k m c n).flat = [.leaf (.int .i64 i), .leaf (.int .i64 v), .leaf (.int .i64 k), .leaf (.string m), .leaf (.string c), .leaf (.int .i64 n)] := by simp [dC, D.flat, D.jv]
theorem RU (i v k : Int) (m c : ByteArray) (n : Int) (b : Bool) : (dC i v k m c n).acs b = [.raw (.int .i64 i), .raw (.int .i64 v), .raw (.int .i64 k), .raw (.string m), .raw (.string c), .raw (.int .i64 n)] := by rw [D.acs, FH]; rfl
theorem RS (i v k : Int) (m c : ByteArray) (n : Int) : (dC i v k m c n).isAgg = true := rfl
theorem tdC : type_of% (And.intro tdE (And.intro @dC.eq_1 (And.intro @RU (And.intro @RS @FH)))) := And.intro tdE (And.intro @dC.eq_1 (And.intro @RU (And.intro @RS @FH)))
section
variable {P : Program} {l : List UInt8} {t ty b : Nat} {W : Nat} {st : St} {i h : Int} {id v k n : Int} {m c : ByteArray} {post : AV → List Own → List AC → Prop}
theorem Ul (h1 : st.fr.getD t .any = .bptr b 0) (h2 : st.boxes[b]? = some [.raw (.int .i64 id), .raw (.int .i64 v), .raw (.int .i64 k), .raw (.string m), .raw (.string c), .raw (.int .i64 n)]) (h0 : st.boxes[0]? = some (bM l i h)) (hp : eX P (.cell t ty) true 6 = true)
    (hq : post (.c true [.raw (.int .i64 id), .raw (.int .i64 v), .raw (.int .i64 k), .raw (.string m), .raw (.string c), .raw (.int .i64 n)]) [] (bM l i h)) : kT (uS P (.cell t ty) post) .ret st :=
  ⟨true, _, [], _, [], hq, rfl, h0, rfl, by simp, trivial, hp, b, _, h1, h2, ⟨rfl, rfl, rfl, rfl, rfl, rfl, trivial⟩⟩
end
def Hq : IC := (.seq (.reg false [⟨(some 4), none, .alloc [(.int .i64 0), (.int .i64 0), (.int .i64 0), (.string ⟨#[]⟩), (.string ⟨#[]⟩), (.int .i64 0)]⟩]) (.seq (.reg false [⟨(some 6), none, .mov (.t 1)⟩, ⟨(some 7), none, .mov (.t 0)⟩, ⟨(some 8), none, .call 49 [(.t 7), (.k (.int .i64 3))]⟩, ⟨(some 9), none, .bin .add (.k (.int .i64 1)) (.t 8)⟩, ⟨(some 10), none, .mov (.t 0)⟩, ⟨(some 11), none, .brow false 3 1 8 false [(.k (.int .i64 1)), (.k (.int .i64 2)), (.k (.int .i64 2)), (.k (.int .i64 2)), (.k (.int .i64 2)), (.k (.int .i64 3)), (.k (.int .i64 4)), (.k (.int .i64 4))]⟩, ⟨(some 12), none, .call 50 [(.t 10), (.t 11)]⟩, ⟨(some 13), none, .mov (.t 0)⟩, ⟨(some 14), none, .brow false 9 1 5 false [(.k (.string ⟨#[97]⟩)), (.k (.string ⟨#[98]⟩)), (.k (.string ⟨#[99]⟩)), (.k (.string ⟨#[100]⟩)), (.k (.string ⟨#[101]⟩))]⟩, ⟨(some 15), none, .call 51 [(.t 13), (.t 14)]⟩, ⟨(some 16), none, .bld [(.int .i64 0), (.int .i64 0), (.int .i64 0), (.string ⟨#[]⟩), (.string ⟨#[]⟩), (.int .i64 0)] [(0, 1, (.t 6)), (1, 1, (.t 9)), (2, 1, (.t 12)), (3, 1, (.t 15))]⟩, ⟨(some 5), none, .alloc [(.int .i64 0), (.int .i64 0), (.int .i64 0), (.string ⟨#[]⟩), (.string ⟨#[]⟩), (.int .i64 0)]⟩, ⟨none, none, .store 6 (.t 5) (.t 16)⟩]) (.seq (.seq (.reg false [⟨(some 17), none, .fad 2 (.t 5)⟩, ⟨(some 18), none, .load 1 false (.t 17)⟩]) (.block 0 (.seq (.reg false [⟨(some 20), none, .bin .eql (.t 18) (.k (.int .i64 1))⟩, ⟨(some 19), none, .mov (.t 20)⟩]) (.cond (.t 19) (.seq (.reg false [⟨(some 21), none, .fad 3 (.t 5)⟩, ⟨none, none, .store 1 (.t 21) (.k (.string ⟨#[]⟩))⟩]) (.reg false [⟨(some 22), none, .mov (.t 0)⟩, ⟨(some 23), none, .brow false 9 1 3 false [(.k (.string ⟨#[65, 32, 104, 101, 97, 100, 105, 110, 103]⟩)), (.k (.string ⟨#[]⟩)), (.k (.string ⟨#[115, 101, 101, 32, 34, 97, 34, 32, 97, 110, 100, 32, 98]⟩))]⟩, ⟨(some 24), none, .call 51 [(.t 22), (.t 23)]⟩, ⟨(some 25), none, .fad 4 (.t 5)⟩, ⟨none, none, .store 1 (.t 25) (.t 24)⟩])) (.seq (.reg false [⟨(some 27), none, .bin .eql (.t 18) (.k (.int .i64 2))⟩, ⟨(some 26), none, .mov (.t 27)⟩]) (.cond (.t 26) (.reg false [⟨(some 28), none, .mov (.t 0)⟩, ⟨(some 29), none, .call 63 [(.t 28)]⟩, ⟨(some 30), none, .fad 4 (.t 5)⟩, ⟨none, none, .store 1 (.t 30) (.t 29)⟩]) (.seq (.reg false [⟨(some 32), none, .bin .eql (.t 18) (.k (.int .i64 3))⟩, ⟨(some 31), none, .mov (.t 32)⟩]) (.cond (.t 31) (.reg false [⟨(some 33), none, .mov (.t 0)⟩, ⟨(some 34), none, .call 49 [(.t 33), (.k (.int .i64 9))]⟩, ⟨(some 35), none, .fad 5 (.t 5)⟩, ⟨none, none, .store 1 (.t 35) (.t 34)⟩]) (.seq (.reg false [⟨(some 37), none, .bin .eql (.t 18) (.k (.int .i64 4))⟩, ⟨(some 36), none, .mov (.t 37)⟩]) (.cond (.t 36) (.reg false [⟨(some 38), none, .mov (.t 0)⟩, ⟨(some 39), none, .call 59 [(.t 38)]⟩, ⟨(some 40), none, .fad 4 (.t 5)⟩, ⟨none, none, .store 1 (.t 40) (.t 39)⟩]) .skip)))))))))) (.seq (.reg false [⟨(some 41), none, .load 6 true (.t 5)⟩, ⟨none, none, .store 6 (.t 4) (.t 41)⟩]) .ret))))
theorem Ho : aF Try.prog (Try.f52.body.getD .skip) = some Hq := by kernel_rfl
theorem NS {k : Int} (h : k ∈ [(1 : Int), 2, 2, 2, 2, 3, 4, 4]) : 0 ≤ k ∧ k ≤ 4 := by
  simp only [List.mem_cons, List.not_mem_nil, or_false] at h
  omega
set_option maxRecDepth 8000 in
set_option maxHeartbeats 16000000 in
theorem KD (l : List UInt8) (i h : Int) (id : Int) (h0 : 0 ≤ i) (h1 : i ≤ l.length) (hl : l.length ≤ 1048576) (hd : -1000000 ≤ id ∧ id ≤ 1000000) : eH Try.prog 52 [li id] (bM l i h) (fun r os' c' => (∃ x : GCell, fF 1000 x ∧ x.id = id ∧ r = .c true [.raw (.int .i64 x.id), .raw (.int .i64 x.ver), .raw (.int .i64 x.kind), .raw (.string x.name), .raw (.string x.code), .raw (.int .i64 x.n)]) ∧ os' = [] ∧ l7 l c') := by
  refine iQ (fn := Try.f52) (r := .cell 4 31) (by kernel_rfl) (by kernel_rfl) (by kernel_rfl) Ho ?_
  unfold Hq bM
  change eP _ _ _ _ (stS 42 _ _ _)
  refine sS tdX ?_
  have hwv : ∀ x : Int, 0 ≤ x → x < 3 → IntKind.i64.wrap (1 + x) = 1 + x := fun x a b => jh (by omega) (by omega)
  repeat' (first | ((with_reducible refine aG ?_); intro K hK) | ((with_reducible refine hK _ ?_); clear hK K) | (with_reducible refine ak ?_ ?_) | ((with_reducible refine aU ?_); first | (refine aQ true (h := (aX l _ _ (3) (by assumption) (by assumption) hl (by decide))) (hK := ?_); rintro _ _ _ ⟨⟨xv, hxv0, hxv1, hxv2, rfl⟩, rfl, i, h, hi0, hi1, rfl⟩) | (refine aQ true (h := (aX l _ _ (9) (by assumption) (by assumption) hl (by decide))) (hK := ?_); rintro _ _ _ ⟨⟨xn, hxn0, hxn1, hxn2, rfl⟩, rfl, i, h, hi0, hi1, rfl⟩) | (refine aQ true (h := (ND l _ _ [1, 2, 2, 2, 2, 3, 4, 4] (by assumption) (by assumption) hl (by decide) (by decide))) (hK := ?_); rintro _ _ _ ⟨⟨pk, hpk, rfl⟩, rfl, i, h, hi0, hi1, rfl⟩) | (refine aQ true (h := (qg l _ _ 8 [(⟨#[97]⟩ : ByteArray), (⟨#[98]⟩ : ByteArray), (⟨#[99]⟩ : ByteArray), (⟨#[100]⟩ : ByteArray), (⟨#[101]⟩ : ByteArray)] (by assumption) (by assumption) hl (by simp) (by simp) (by decide))) (hK := ?_); rintro _ _ _ ⟨⟨nm, hnm, rfl⟩, rfl, i, h, hi0, hi1, rfl⟩) | (refine aQ true (h := (qg l _ _ 64 [(⟨#[65, 32, 104, 101, 97, 100, 105, 110, 103]⟩ : ByteArray), (⟨#[]⟩ : ByteArray), (⟨#[115, 101, 101, 32, 34, 97, 34, 32, 97, 110, 100, 32, 98]⟩ : ByteArray)] (by assumption) (by assumption) hl (by simp) (by simp) (by decide))) (hK := ?_); rintro _ _ _ ⟨⟨s, hs, rfl⟩, rfl, i, h, hi0, hi1, rfl⟩) | (refine aQ true (h := (Tj l _ _ (by assumption) (by assumption) hl)) (hK := ?_); rintro _ _ _ ⟨⟨s, hs, rfl⟩, rfl, i, h, hi0, hi1, rfl⟩) | (refine aQ true (h := (KC l _ _ (by assumption) (by assumption) hl)) (hK := ?_); rintro _ _ _ ⟨⟨s, hs, rfl⟩, rfl, i, h, hi0, hi1, rfl⟩)) | ((with_reducible refine aH ?_); refine ss tdC ?_) | refine nv ?_ | (with_reducible (refine cS rfl ?_ ?_) <;> (intro hb hb'; first | (exfalso; omega) | skip)) | exact aY | exact aI)
  all_goals first
    | omega
    | (have hkm := NS hpk
       refine Ul rfl rfl rfl (by kernel_rfl) ⟨⟨⟨_, _, _, _, _, _⟩, ?cb, rfl, rfl⟩, rfl, _, _, ‹_›, ‹_›, rfl⟩
       case cb => exact ⟨⟨by simp only; omega, by simp only; omega⟩, ⟨by simp only; omega, by simp only; omega⟩, ⟨by simp only; omega, by simp only; omega⟩, ⟨by simp only; omega, by simp only; omega⟩, by simp only [szD, List.size_toArray, List.length_nil]; omega, by simp only [szD, List.size_toArray, List.length_nil]; omega⟩)
end Go.Proofs.Ytnongnchpplacaa

namespace Go.Proofs.Ytnongnchpplacaa
open Go.RowKit
set_option linter.unusedSimpArgs false
set_option linter.unusedVariables false
theorem Vy {k : Nat} (hk : k < 8) : ∃ z : ByteArray, z.size ≤ 8 ∧ ([.leaf (.string ⟨#[97]⟩), .leaf (.string ⟨#[98]⟩), .leaf (.string ⟨#[99]⟩), .leaf (.string ⟨#[100]⟩), .leaf (.string ⟨#[101]⟩), .leaf (.string ⟨#[97, 49]⟩), .leaf (.string ⟨#[98, 49]⟩), .leaf (.string ⟨#[99, 49]⟩)] : List D)[k]? = some (.leaf (.string z)) := by
  match k, hk with
  | 0, _ => exact ⟨_, by decide, rfl⟩
  | 1, _ => exact ⟨_, by decide, rfl⟩
  | 2, _ => exact ⟨_, by decide, rfl⟩
  | 3, _ => exact ⟨_, by decide, rfl⟩
  | 4, _ => exact ⟨_, by decide, rfl⟩
  | 5, _ => exact ⟨_, by decide, rfl⟩
  | 6, _ => exact ⟨_, by decide, rfl⟩
  | 7, _ => exact ⟨_, by decide, rfl⟩
theorem BJ {W : Nat} {x : GCell} {z : ByteArray} (h : fF W x) (hz : z.size ≤ 8) : fF W ⟨x.id, x.ver, x.kind, z, x.code, x.n⟩ := ⟨h.1, h.2.1, h.2.2.1, h.2.2.2.1, Nat.le_trans hz (by decide), h.2.2.2.2.2⟩
theorem MR {p : GCell → Prop} {cs : List GCell} {x : GCell} {j : Nat} (h : ∀ y ∈ cs, p y) (hx : p x) : ∀ y ∈ cs.take j ++ x :: cs.drop j, p y := fun y hy => by
  rcases List.mem_append.1 hy with hy | hy
  · exact h y (List.mem_of_mem_take hy)
  · rcases List.mem_cons.1 hy with rfl | hy
    · exact hx
    · exact h y (List.mem_of_mem_drop hy)
theorem P7 {cs : List GCell} {x : GCell} {j : Nat} : (cs.map GCell.toD).take j ++ [x.toD] ++ ((cs.map GCell.toD).take cs.length).drop j = (cs.take j ++ x :: cs.drop j).map GCell.toD := by
  rw [List.take_of_length_le (l := cs.map GCell.toD) (i := cs.length) (by simp)]
  simp [List.map_take, List.map_drop]
theorem L9 {s k : Nat} {l : List D} (h : El s l) : El s (l.take k) := fun d hd => h d (List.mem_of_mem_take hd)
theorem Ur {s k : Nat} {l : List D} (h : El s l) : El s (l.drop k) := fun d hd => h d (List.mem_of_mem_drop hd)
theorem U9 (cs : List GCell) : dW (cs.map GCell.toD) := lX (g := GCell.toD) (fun x w f cs h => (GCell.opened.1 h).1) cs
theorem V8 {P : Program} {t ty b k v e s : Nat} {nw : Nw} {st : St} {l : List UInt8} {i h : Int} {cs : List GCell} {post : AV → List Own → List AC → Prop} (h1 : st.fr.getD t .any = .bptr b 0) (h2 : st.boxes[b]? = some [.own k v]) (ho : st.owns[k]? = some ⟨cs.map GCell.toD, e, s, v, nw⟩)
    (h0 : st.boxes[0]? = some (bM l i h)) (hp : eX P (.cell t ty) true 1 = true) (hq : post (.c true [.own 0 0]) [⟨cs.map GCell.toD, e, s, 0, ⟨true, true⟩⟩] (bM l i h)) : kT (uS P (.cell t ty) post) .ret st :=
  ⟨true, [.own 0 0], [⟨cs.map GCell.toD, e, s, 0, ⟨true, true⟩⟩], bM l i h, [k], hq, rfl, h0, rfl, by simp, ⟨⟨_, ho, rfl, U9 cs⟩, trivial⟩, hp, b, _, h1, h2, ⟨rfl, rfl, _, ho, rfl⟩, trivial⟩
theorem LQ {cs : List GCell} {x : GCell} {j : Nat} : (cs.take j ++ x :: cs.drop j).length = cs.length + 1 := by
  simp
  omega
def Hf : IC := (.seq (.reg false [⟨(some 4), none, .alloc [(.slice none 0 0)]⟩]) (.seq (.reg false [⟨(some 10), none, .bld [(.slice none 0 0)] []⟩, ⟨(some 5), none, .alloc [(.slice none 0 0)]⟩, ⟨none, none, .store 1 (.t 5) (.t 10)⟩]) (.seq (.reg false [⟨(some 11), none, .mov (.t 0)⟩, ⟨(some 12), none, .mov (.t 1)⟩, ⟨(some 13), none, .bin .add (.t 12) (.k (.int .i64 1))⟩, ⟨(some 14), none, .call 49 [(.t 11), (.t 13)]⟩, ⟨(some 6), none, .mov (.t 14)⟩]) (.seq (.seq (.reg false [⟨(some 7), none, .mov (.k (.int .i64 0))⟩]) (.block 0 (.loop (.seq (.seq (.reg false [⟨(some 15), none, .mov (.t 7)⟩, ⟨(some 16), none, .mov (.t 6)⟩, ⟨(some 17), none, .bin .lss (.t 15) (.t 16)⟩]) (.cond (.t 17) .skip (.exit 0))) (.seq (.block 1 (.seq (.reg false [⟨(some 20), none, .mov (.t 0)⟩, ⟨(some 21), none, .mov (.t 7)⟩, ⟨(some 22), none, .bin .add (.t 21) (.k (.int .i64 1))⟩, ⟨(some 23), none, .call 52 [(.t 20), (.t 22)]⟩, ⟨(some 8), none, .alloc [(.int .i64 0), (.int .i64 0), (.int .i64 0), (.string ⟨#[]⟩), (.string ⟨#[]⟩), (.int .i64 0)]⟩, ⟨none, none, .store 6 (.t 8) (.t 23)⟩]) (.seq (.seq (.reg false [⟨(some 24), none, .fad 2 (.t 8)⟩, ⟨(some 25), none, .load 1 false (.t 24)⟩, ⟨(some 26), none, .bin .neq (.t 25) (.k (.int .i64 1))⟩, ⟨(some 27), none, .mov (.t 26)⟩, ⟨(some 28), (some (27, true)), .mov (.t 0)⟩, ⟨(some 29), (some (27, true)), .call 42 [(.t 28), (.k (.int .i64 10))]⟩, ⟨(some 30), (some (27, true)), .not (.t 29)⟩, ⟨(some 31), none, .pick (.t 27) (.t 30) (.k (.bool false))⟩]) (.cond (.t 31) (.reg false [⟨(some 32), none, .brow true 9 1 8 false [(.k (.string ⟨#[97]⟩)), (.k (.string ⟨#[98]⟩)), (.k (.string ⟨#[99]⟩)), (.k (.string ⟨#[100]⟩)), (.k (.string ⟨#[101]⟩)), (.k (.string ⟨#[97, 49]⟩)), (.k (.string ⟨#[98, 49]⟩)), (.k (.string ⟨#[99, 49]⟩))]⟩, ⟨(some 33), none, .mov (.t 7)⟩, ⟨(some 34), none, .iad 1 (.t 32) (.t 33)⟩, ⟨(some 35), none, .load 1 false (.t 34)⟩, ⟨(some 36), none, .fad 3 (.t 8)⟩, ⟨none, none, .store 1 (.t 36) (.t 35)⟩]) .skip)) (.seq (.reg false [⟨(some 37), none, .mov (.t 0)⟩, ⟨(some 38), none, .fad 0 (.t 5)⟩, ⟨(some 39), none, .load 1 false (.t 38)⟩, ⟨(some 40), none, .len false (.t 39)⟩, ⟨(some 41), none, .bin .add (.t 40) (.k (.int .i64 1))⟩, ⟨(some 42), none, .call 49 [(.t 37), (.t 41)]⟩, ⟨(some 9), none, .mov (.t 42)⟩]) (.reg true [⟨(some 43), none, .brow true 31 6 0 false []⟩, ⟨(some 44), none, .fad 0 (.t 5)⟩, ⟨(some 45), none, .load 1 false (.t 44)⟩, ⟨(some 46), none, .mov (.t 9)⟩, ⟨(some 47), none, .lsl 6 (.t 45) none (some (.t 46))⟩, ⟨(some 48), none, .app 31 6 (.t 43) (.t 47)⟩, ⟨(some 49), none, .load 6 true (.t 8)⟩, ⟨(some 50), none, .brow false 31 6 1 false [(.t 49)]⟩, ⟨(some 51), none, .app 31 6 (.t 48) (.t 50)⟩, ⟨(some 52), none, .fad 0 (.t 5)⟩, ⟨(some 53), none, .load 1 false (.t 52)⟩, ⟨(some 54), none, .mov (.t 9)⟩, ⟨(some 55), none, .lsl 6 (.t 53) (some (.t 54)) none⟩, ⟨(some 56), none, .app 31 6 (.t 51) (.t 55)⟩, ⟨(some 57), none, .fad 0 (.t 5)⟩, ⟨none, none, .store 1 (.t 57) (.t 56)⟩]))))) (.reg false [⟨(some 18), none, .mov (.t 7)⟩, ⟨(some 19), none, .bin .add (.t 18) (.k (.int .i64 1))⟩, ⟨(some 7), none, .mov (.t 19)⟩])))))) (.seq (.reg false [⟨(some 58), none, .load 1 true (.t 5)⟩, ⟨none, none, .store 1 (.t 4) (.t 58)⟩]) .ret)))))
theorem He : aF Try.prog (Try.f41.body.getD .skip) = some Hf := by kernel_rfl
set_option maxRecDepth 8000 in
set_option maxHeartbeats 16000000 in
theorem Tn (l : List UInt8) (i h : Int) (m : Nat) (h0 : 0 ≤ i) (h1 : i ≤ l.length) (hl : l.length ≤ 1048576) (hm : m ≤ 8) : eH Try.prog 41 [li (m : Int)] (bM l i h) (fun r os' c' => (∃ cs : List GCell, cs.length ≤ m ∧ (∀ x ∈ cs, fF 1000 x) ∧ r = .c true [.own 0 0] ∧ os' = [⟨cs.map GCell.toD, 31, 6, 0, ⟨true, true⟩⟩]) ∧ l7 l c') := by
  refine iQ (fn := Try.f41) (r := .cell 4 26) (by kernel_rfl) (by kernel_rfl) (by kernel_rfl) He ?_
  unfold Hf bM
  change eP _ _ _ _ (stS 59 _ _ _)
  refine sS tdX ?_
  have hw0 : IntKind.i64.wrap ((m : Int) + 1) = ((m + 1 : Nat) : Int) := dY (by omega)
  repeat' (first | ((with_reducible refine hK _ ?_); clear hK K) | (with_reducible refine ak ?_ ?_) | ((with_reducible refine gi ?_); first | (refine aB ?_ ?_; rfl) | (refine aC ?_ ?_; (rfl; refine gF ?_)) | ((with_reducible refine gS rfl ?_ ?_) <;> (intro hb hb'; first | (exfalso; omega) | skip))) | ((with_reducible refine gxi ?_); first | (refine aO ?_ ?_; rfl) | (refine aP ?_ ?_; (rfl; refine gxF ?_)) | ((with_reducible refine gxS rfl ?_ ?_) <;> (intro hb hb'; first | (exfalso; omega) | skip))) | ((with_reducible refine aU ?_); first | (refine aQ true (h := (og l _ _ (m + 1) (by assumption) (by assumption) hl (by omega) (by omega))) (hK := ?_); rintro _ _ _ ⟨⟨n, hn, rfl⟩, rfl, i, h, hi0, hi1, rfl⟩)) | ((with_reducible refine aH ?_); refine ss (And.intro tdC (And.intro @gZ hw0)) ?_) | ((with_reducible refine bC ?_); refine sx (And.intro tdC (And.intro @gZ hw0)) ?_) | refine nv ?_ | (refine rD ?_; intro K hK) | (with_reducible (refine cS rfl ?_ ?_) <;> (intro hb hb'; first | (exfalso; omega) | skip)) | (exact GCell.el _) | (exact GCell.el [⟨_, _, _, _, _, _⟩]) | exact aY | exact aI)
  refine SG 2 0 31 6 false rfl rfl ?_
  simp only [St.Gz, List.nil_append, List.length_nil, List.set_cons_zero, List.set_cons_succ, List.getD_cons_zero, List.getD_cons_succ]
  refine Kq (X := Nat × Nat × List GCell × Int × Int) (fun z => [.k, .d, .d, .d, .k, .k, .k, .v (.c false [.raw (.int .i64 ((z.1 : Nat)))]), .d, .d, .d, .d, .d, .d, .d, .d, .d, .d, .d, .d, .d, .d, .d, .d, .d, .d, .d, .d, .d, .d, .d, .d, .d, .d, .d, .d, .d, .d, .d, .d, .d, .d, .d, .d, .d, .d, .d, .d, .d, .d, .d, .d, .d, .d, .d, .d, .d, .d, .d]) (fun z => [⟨z.2.2.1.map GCell.toD, 31, 6, z.2.1, ⟨true, false⟩⟩]) (fun z _ => [bM l z.2.2.2.1 z.2.2.2.2, [.raw (.slice none 0 0)], [.own 0 z.2.1]])
    (fun z => z.1 ≤ n ∧ z.2.2.1.length = z.1 ∧ (∀ x ∈ z.2.2.1, fF 1000 x) ∧ 0 ≤ z.2.2.2.1 ∧ z.2.2.2.1 ≤ l.length) (fun z => n - z.1) (0, 0, [], i, h) [0] ⟨Nat.zero_le _, rfl, fun x hx => by simp at hx, hi0, hi1⟩ rfl (fun z => by simp) ?_ ?_
  · simp [uY, zo, yE, uh, AV.ren, AC.ren, AV.fits, AC.fits, FB, eU, bM]
  rintro ⟨k, v, cs, i, h⟩ ⟨hk, hcs, hall, hi0, hi1⟩
  simp only at hk hcs hall hi0 hi1
  simp only [FB, eU]
  by_cases hlt : k < n
  · have hT : decide ((k : Int) < (n : Int)) = true := decide_eq_true (by omega)
    have hw1 : IntKind.i64.wrap ((k : Int) + 1) = ((k + 1 : Nat) : Int) := dY (by omega)
    have hw2 : IntKind.i64.wrap ((cs.length : Int) + 1) = ((cs.length + 1 : Nat) : Int) := dY (by omega)
    obtain ⟨z, hz, hg⟩ := Vy (k := k) (by omega)
    refine y9 0 rfl ?_
    simp only [St.rel, AV.rel, AC.rel, dS, List.map_cons, List.map_nil, and_self, if_true, bM, List.getElem?_cons_zero, List.set_cons_zero, List.set_cons_succ]
    repeat' (first | ((with_reducible refine hK _ ?_); clear hK K) | (with_reducible refine ak ?_ ?_) | ((with_reducible refine gi ?_); first | (refine aB ?_ ?_; rfl) | (refine aC ?_ ?_; (rfl; refine gF ?_)) | ((with_reducible refine gS rfl ?_ ?_) <;> (intro hb hb'; first | (exfalso; omega) | skip))) | ((with_reducible refine gxi ?_); first | (refine aO ?_ ?_; rfl) | (refine aP ?_ ?_; (rfl; refine gxF ?_)) | ((with_reducible refine gxS rfl ?_ ?_) <;> (intro hb hb'; first | (exfalso; omega) | skip))) | ((with_reducible refine aU ?_); first | (refine aQ true (h := (KD l _ _ _ (by assumption) (by assumption) hl (by constructor <;> omega))) (hK := ?_); rintro _ _ _ ⟨⟨x, hx, hxi, rfl⟩, rfl, i, h, hi0, hi1, rfl⟩) | (refine aQ true (h := (mD l _ _ (10) (by assumption) (by assumption) hl (by decide))) (hK := ?_); rintro _ _ _ ⟨⟨b, rfl⟩, rfl, i, h, hi0, hi1, rfl⟩) | (refine aQ true (h := (og l _ _ (cs.length + 1) (by assumption) (by assumption) hl (by omega) (by omega))) (hK := ?_); rintro _ _ _ ⟨⟨j, hj, rfl⟩, rfl, i, h, hi0, hi1, rfl⟩)) | ((with_reducible refine aH ?_); refine ss (And.intro tdC (And.intro @gZ (And.intro hT (And.intro hw1 (And.intro hw2 hg))))) ?_) | ((with_reducible refine bC ?_); refine sx (And.intro tdC (And.intro @gZ (And.intro hT (And.intro hw1 (And.intro hw2 hg))))) ?_) | refine nv ?_ | (refine rD ?_; intro K hK) | (with_reducible (refine cS rfl ?_ ?_) <;> (intro hb hb'; first | (exfalso; omega) | skip)) | (exact GCell.el _) | (exact GCell.el [⟨_, _, _, _, _, _⟩]) | exact aY | exact aI)
    all_goals first
      | exact L9 (GCell.el _)
      | exact Ur (L9 (GCell.el _))
      | (refine JE (k + 1, 3, cs.take j ++ (⟨x.id, x.ver, x.kind, x.name, x.code, x.n⟩ : GCell) :: cs.drop j, i, h) [1] ⟨by simp, ?fr, ⟨⟨P7 (x := ⟨x.id, x.ver, x.kind, x.name, x.code, x.n⟩), rfl, rfl, rfl, rfl⟩, trivial⟩, ?bx, ?ft⟩ ⟨by simp only; omega, by simp only; rw [LQ, hcs], ?al, by assumption, by assumption⟩ (show n - (k + 1) < n - k by omega)
         case fr => simp [zo, AV.ren, AC.ren, AV.fits, AC.fits, FB, eU]
         case bx => simp [uh, AC.ren, FB, bM]
         case ft => simp [AC.fits, FB, bM]
         case al => exact MR hall (by first | exact hx | exact BJ hx hz))
      | (refine JE (k + 1, 3, cs.take j ++ (⟨x.id, x.ver, x.kind, z, x.code, x.n⟩ : GCell) :: cs.drop j, i, h) [2] ⟨by simp, ?fr, ⟨⟨P7 (x := ⟨x.id, x.ver, x.kind, z, x.code, x.n⟩), rfl, rfl, rfl, rfl⟩, trivial⟩, ?bx, ?ft⟩ ⟨by simp only; omega, by simp only; rw [LQ, hcs], ?al, by assumption, by assumption⟩ (show n - (k + 1) < n - k by omega)
         case fr => simp [zo, AV.ren, AC.ren, AV.fits, AC.fits, FB, eU]
         case bx => simp [uh, AC.ren, FB, bM]
         case ft => simp [AC.fits, FB, bM]
         case al => exact MR hall (by first | exact hx | exact BJ hx hz))
  · have hT : decide ((k : Int) < (n : Int)) = false := decide_eq_false (by omega)
    repeat' (first | ((with_reducible refine hK _ ?_); clear hK K) | (with_reducible refine ak ?_ ?_) | ((with_reducible refine gi ?_); first | (refine aB ?_ ?_; rfl) | (refine aC ?_ ?_; (rfl; refine gF ?_)) | ((with_reducible refine gS rfl ?_ ?_) <;> (intro hb hb'; first | (exfalso; omega) | skip))) | ((with_reducible refine gxi ?_); first | (refine aO ?_ ?_; rfl) | (refine aP ?_ ?_; (rfl; refine gxF ?_)) | ((with_reducible refine gxS rfl ?_ ?_) <;> (intro hb hb'; first | (exfalso; omega) | skip))) | ((with_reducible refine aH ?_); refine ss (And.intro tdC (And.intro @gZ hT)) ?_) | ((with_reducible refine bC ?_); refine sx (And.intro tdC (And.intro @gZ hT)) ?_) | refine nv ?_ | (refine rD ?_; intro K hK) | (with_reducible (refine cS rfl ?_ ?_) <;> (intro hb hb'; first | (exfalso; omega) | skip)) | (exact GCell.el _) | (exact GCell.el [⟨_, _, _, _, _, _⟩]) | exact aY | exact aI)
    exact V8 rfl rfl rfl rfl (by kernel_rfl) ⟨⟨cs, by omega, hall, rfl, rfl⟩, i, h, hi0, hi1, rfl⟩
end Go.Proofs.Ytnongnchpplacaa

namespace Go.Proofs.Ytnongnchpplacaa
open Go.RowKit
set_option linter.unusedSimpArgs false
set_option linter.unusedVariables false
end Go.Proofs.Ytnongnchpplacaa

namespace Go.Proofs.Ytnongnchpplacaa
open Go.RowKit
set_option linter.unusedSimpArgs false
set_option linter.unusedVariables false
def QJ : IC := (.seq (.reg false [⟨(some 2), none, .mov (.k (.pointer none))⟩]) (.seq (.reg false [⟨(some 5), none, .mov (.t 0)⟩, ⟨(some 6), none, .len false (.t 5)⟩, ⟨(some 7), none, .bin .add (.k (.int .i64 26583)) (.t 6)⟩, ⟨(some 3), none, .mov (.t 7)⟩]) (.seq (.seq (.reg false [⟨(some 4), none, .mov (.k (.int .i64 0))⟩]) (.block 0 (.loop (.seq (.seq (.reg false [⟨(some 8), none, .mov (.t 4)⟩, ⟨(some 9), none, .mov (.t 0)⟩, ⟨(some 10), none, .len false (.t 9)⟩, ⟨(some 11), none, .bin .lss (.t 8) (.t 10)⟩, ⟨(some 12), none, .mov (.t 11)⟩, ⟨(some 13), (some (12, true)), .mov (.t 4)⟩, ⟨(some 14), (some (12, true)), .bin .lss (.t 13) (.k (.int .i64 4000))⟩, ⟨(some 15), none, .pick (.t 12) (.t 14) (.k (.bool false))⟩]) (.cond (.t 15) .skip (.exit 0))) (.seq (.block 1 (.reg false [⟨(some 18), none, .mov (.t 3)⟩, ⟨(some 19), none, .bin .mul (.t 18) (.k (.int .i64 131))⟩, ⟨(some 20), none, .mov (.t 0)⟩, ⟨(some 21), none, .mov (.t 4)⟩, ⟨(some 22), none, .iad 1 (.t 20) (.t 21)⟩, ⟨(some 23), none, .load 1 false (.t 22)⟩, ⟨(some 24), none, .cvi .i64 (.t 23)⟩, ⟨(some 25), none, .bin .add (.t 19) (.t 24)⟩, ⟨(some 26), none, .bin .add (.t 25) (.k (.int .i64 7))⟩, ⟨(some 27), none, .bin .and (.t 26) (.k (.int .i64 1073741823))⟩, ⟨(some 3), none, .mov (.t 27)⟩])) (.reg false [⟨(some 16), none, .mov (.t 4)⟩, ⟨(some 17), none, .bin .add (.t 16) (.k (.int .i64 1))⟩, ⟨(some 4), none, .mov (.t 17)⟩])))))) (.seq (.reg false [⟨(some 28), none, .mov (.t 0)⟩, ⟨(some 29), none, .mov (.t 3)⟩, ⟨(some 30), none, .bld [(.slice none 0 0), (.int .i64 0), (.int .i64 0)] [(0, 1, (.t 28)), (2, 1, (.t 29))]⟩, ⟨(some 31), none, .box (.t 30)⟩, ⟨(some 2), none, .mov (.t 31)⟩]) .ret))))
theorem NT : aF Try.prog (Try.f31.body.getD .skip) = some QJ := by kernel_rfl
set_option maxRecDepth 8000 in
set_option maxHeartbeats 16000000 in
theorem V3 (l : List UInt8) (n : Bool) (os : List Own) (bs : List (List AC)) (hl : l.length ≤ 1048576) (hb0 : (bs.all fun xs => xs.all (AC.fits os.length bs.length)) = true) (hb : (bs.all fun xs => xs.all (AC.fits os.length (bs.length + 1))) = true) :
    lq Try.prog 31 [.c false [.sl n (l.map lu8)]] os bs (fun r os' bs' => r = .bptr bs.length 0 ∧ os' = os ∧ ∃ h : Int, bs' = bs ++ [[.sl n (l.map lu8), .raw (.int .i64 0), .raw (.int .i64 h)]]) := by
  refine UH (fn := Try.f31) (rs := [.tmp 2]) (by kernel_rfl) (by kernel_rfl) (by kernel_rfl) NT ?_
  unfold QJ
  change eP _ _ _ _ (stS 32 _ _ _)
  refine sS tdX ?_
  have hw0 : IntKind.i64.wrap (26583 + (l.length : Int)) = 26583 + (l.length : Int) := jh (by omega) (by omega)
  repeat' (first | ((with_reducible refine aG ?_); intro K hK) | ((with_reducible refine hK _ ?_); clear hK K) | (with_reducible refine ak ?_ ?_) | ((with_reducible refine gi ?_); first | (refine aB ?_ ?_; rfl) | (refine aC ?_ ?_; (rfl; refine gF ?_)) | ((with_reducible refine gS rfl ?_ ?_) <;> (intro hb hb'; first | (exfalso; omega) | skip))) | ((with_reducible refine aH ?_); refine ss (And.intro tdC (And.intro @gZ hw0)) ?_) | refine nv ?_ | (with_reducible (refine cS rfl ?_ ?_) <;> (intro hb hb'; first | (exfalso; omega) | skip)) | (exact GCell.el _) | (exact GCell.el [⟨_, _, _, _, _, _⟩]) | exact aY | exact aI)
  refine nK (X := Nat × Int) (fun z => [.k, .d, .d, .v (.c false [.raw (.int .i64 z.2)]), .v (.c false [.raw (.int .i64 ((z.1 : Nat)))]), .d, .d, .d, .d, .d, .d, .d, .d, .d, .d, .d, .d, .d, .d, .d, .d, .d, .d, .d, .d, .d, .d, .d, .d, .d, .d, .d]) (fun _ => os) (fun _ _ => bs) (fun z => z.1 ≤ l.length) (fun z => l.length - z.1) (0, 26583 + (l.length : Int)) (Nat.zero_le _) (fun _ => ⟨Nat.le_refl _, Nat.le_refl _⟩) ?_ ?_
  · simp [fZ, iR, qZ, rO, AV.fits, AC.fits, FB, eU, hb0]
  rintro ⟨k, h⟩ hk
  simp only at hk
  simp only [FB, eU]
  have fin : ∀ {fr : List AV} {b : Nat}, b = bs.length → fr.getD 2 .any = .bptr b 0 → (∃ r os' bs', (r = .bptr bs.length 0 ∧ os' = os ∧ ∃ h : Int, bs' = bs ++ [[.sl n (l.map lu8), .raw (.int .i64 0), .raw (.int .i64 h)]]) ∧ os.length ≤ os'.length ∧ bs.length ≤ bs'.length ∧ VO [.tmp 2] r os' bs' ⟨fr, os, bs ++ [[.sl n (l.map lu8), .raw (.int .i64 0), .raw (.int .i64 h)]]⟩) := by
    intro fr b hb1 h2
    subst hb1
    exact ⟨_, _, _, ⟨rfl, rfl, h, rfl⟩, Nat.le_refl _, by simp, qZ _, rO _, by simpa [AC.fits] using hb, h2, by simp [AV.fits]⟩
  by_cases hlt : k < l.length
  · have hT : decide ((k : Int) < (l.length : Int)) = true := decide_eq_true (by omega)
    have hw1 : IntKind.i64.wrap ((k : Int) + 1) = ((k + 1 : Nat) : Int) := dY (by omega)
    have hg : idx (l.map lu8) (some (k : Int)) = some (.leaf (.int .u8 ((l[k]).toNat : Int))) := dI lu8 l hlt
    cases hT2 : decide ((k : Int) < 4000)
    · repeat' (first | ((with_reducible refine aG ?_); intro K hK) | ((with_reducible refine hK _ ?_); clear hK K) | (with_reducible refine ak ?_ ?_) | ((with_reducible refine gi ?_); first | (refine aB ?_ ?_; rfl) | (refine aC ?_ ?_; (rfl; refine gF ?_)) | ((with_reducible refine gS rfl ?_ ?_) <;> (intro hb hb'; first | (exfalso; omega) | skip))) | ((with_reducible refine aH ?_); refine ss (And.intro tdC (And.intro @gZ (And.intro hT (And.intro hT2 (And.intro hw1 hg))))) ?_) | refine nv ?_ | (with_reducible (refine cS rfl ?_ ?_) <;> (intro hb hb'; first | (exfalso; omega) | skip)) | (exact GCell.el _) | (exact GCell.el [⟨_, _, _, _, _, _⟩]) | exact aY | exact aI)
      exact fin rfl rfl
    · repeat' (first | ((with_reducible refine aG ?_); intro K hK) | ((with_reducible refine hK _ ?_); clear hK K) | (with_reducible refine ak ?_ ?_) | ((with_reducible refine gi ?_); first | (refine aB ?_ ?_; rfl) | (refine aC ?_ ?_; (rfl; refine gF ?_)) | ((with_reducible refine gS rfl ?_ ?_) <;> (intro hb hb'; first | (exfalso; omega) | skip))) | ((with_reducible refine aH ?_); refine ss (And.intro tdC (And.intro @gZ (And.intro hT (And.intro hT2 (And.intro hw1 hg))))) ?_) | refine nv ?_ | (with_reducible (refine cS rfl ?_ ?_) <;> (intro hb hb'; first | (exfalso; omega) | skip)) | (exact GCell.el _) | (exact GCell.el [⟨_, _, _, _, _, _⟩]) | exact aY | exact aI)
      all_goals first
        | exact J5 l
        | (refine iU (k + 1, Jg .i64 (IntKind.i64.wrap (IntKind.i64.wrap (IntKind.i64.wrap (h * 131) + IntKind.i64.wrap ((l[k]).toNat : Int)) + 7)) 1073741823) ?_ (show k + 1 ≤ l.length by omega) (show l.length - (k + 1) < l.length - k by omega)
           simp [fZ, iR, qZ, rO, AV.fits, AC.fits, FB, eU, hb0])
  · have hT : decide ((k : Int) < (l.length : Int)) = false := decide_eq_false (by omega)
    repeat' (first | ((with_reducible refine aG ?_); intro K hK) | ((with_reducible refine hK _ ?_); clear hK K) | (with_reducible refine ak ?_ ?_) | ((with_reducible refine gi ?_); first | (refine aB ?_ ?_; rfl) | (refine aC ?_ ?_; (rfl; refine gF ?_)) | ((with_reducible refine gS rfl ?_ ?_) <;> (intro hb hb'; first | (exfalso; omega) | skip))) | ((with_reducible refine aH ?_); refine ss (And.intro tdC (And.intro @gZ hT)) ?_) | refine nv ?_ | (with_reducible (refine cS rfl ?_ ?_) <;> (intro hb hb'; first | (exfalso; omega) | skip)) | (exact GCell.el _) | (exact GCell.el [⟨_, _, _, _, _, _⟩]) | exact aY | exact aI)
    exact fin rfl rfl
end Go.Proofs.Ytnongnchpplacaa

