/-
  Texts joined: Draw1.
-/
import Derived.Test.YtnongnchpplacaaJE
namespace Go.Proofs.Ytnongnchpplacaa
open Go.RowKit
set_option linter.unusedSimpArgs false
set_option linter.unusedVariables false
theorem VQ (a : Int) {n : Nat} (h : n ≤ 1073741823) : 0 ≤ Kz .i64 a (n : Int) ∧ Kz .i64 a (n : Int) ≤ (n : Int) := by
  unfold Kz
  have h1 : (BitVec.ofInt IntKind.i64.bits a &&& BitVec.ofInt IntKind.i64.bits (n : Int)).toNat ≤ n := by
    rw [BitVec.toNat_and]
    refine Nat.le_trans Nat.and_le_right ?_
    show (BitVec.ofInt 64 (n : Int)).toNat ≤ n
    rw [BitVec.toNat_ofInt]
    omega
  have h2 : IntKind.i64.wrap (((BitVec.ofInt IntKind.i64.bits a &&& BitVec.ofInt IntKind.i64.bits (n : Int)).toNat : Nat) : Int) = (((BitVec.ofInt IntKind.i64.bits a &&& BitVec.ofInt IntKind.i64.bits (n : Int)).toNat : Nat) : Int) := by
    generalize (BitVec.ofInt IntKind.i64.bits a &&& BitVec.ofInt IntKind.i64.bits (n : Int)).toNat = k at h1
    exact jq (by omega) (by omega)
  rw [h2]
  omega
theorem AO (a : Int) : 0 ≤ Kz .i64 a 255 ∧ Kz .i64 a 255 ≤ 255 := VQ a (n := 255) (by decide)
def bQ (l : List UInt8) (i h : Int) : List AC := [.sl true (l.map lu8), .raw (.int .i64 i), .raw (.int .i64 h)]
def mJ (l : List UInt8) (c : List AC) : Prop := ∃ i h : Int, 0 ≤ i ∧ i ≤ l.length ∧ c = bQ l i h
def N9 : IC := (.seq (.reg false [⟨(some 2), none, .mov (.k (.int .i64 0))⟩]) (.seq (.reg false [⟨(some 4), none, .mov (.t 0)⟩, ⟨(some 5), none, .mov (.t 0)⟩, ⟨(some 6), none, .nck (.t 5)⟩, ⟨(some 7), none, .fad 2 (.t 6)⟩, ⟨(some 8), none, .load 1 false (.t 7)⟩, ⟨(some 9), none, .bin .mul (.t 8) (.k (.int .i64 6364136223846793005))⟩, ⟨(some 10), none, .bin .add (.t 9) (.k (.int .i64 1442695040888963407))⟩, ⟨(some 11), none, .nck (.t 4)⟩, ⟨(some 12), none, .fad 2 (.t 11)⟩, ⟨none, none, .store 1 (.t 12) (.t 10)⟩]) (.seq (.reg true [⟨(some 13), none, .mov (.t 0)⟩, ⟨(some 14), none, .nck (.t 13)⟩, ⟨(some 15), none, .fad 2 (.t 14)⟩, ⟨(some 16), none, .load 1 false (.t 15)⟩, ⟨(some 17), none, .bin .shr (.t 16) (.k (.int .u64 33))⟩, ⟨(some 18), none, .mov (.t 0)⟩, ⟨(some 19), none, .nck (.t 18)⟩, ⟨(some 20), none, .fad 2 (.t 19)⟩, ⟨(some 21), none, .load 1 false (.t 20)⟩, ⟨(some 22), none, .bin .shr (.t 21) (.k (.int .u64 45))⟩, ⟨(some 23), none, .bin .xor (.t 17) (.t 22)⟩, ⟨(some 24), none, .bin .and (.t 23) (.k (.int .i64 255))⟩, ⟨(some 3), none, .mov (.t 24)⟩]) (.seq (.seq (.reg true [⟨(some 25), none, .mov (.t 0)⟩, ⟨(some 26), none, .nck (.t 25)⟩, ⟨(some 27), none, .fad 1 (.t 26)⟩, ⟨(some 28), none, .load 1 false (.t 27)⟩, ⟨(some 29), none, .mov (.t 0)⟩, ⟨(some 30), none, .nck (.t 29)⟩, ⟨(some 31), none, .fad 0 (.t 30)⟩, ⟨(some 32), none, .load 1 false (.t 31)⟩, ⟨(some 33), none, .len false (.t 32)⟩, ⟨(some 34), none, .bin .lss (.t 28) (.t 33)⟩]) (.cond (.t 34) (.seq (.reg true [⟨(some 35), none, .mov (.t 3)⟩, ⟨(some 36), none, .mov (.t 0)⟩, ⟨(some 37), none, .nck (.t 36)⟩, ⟨(some 38), none, .fad 0 (.t 37)⟩, ⟨(some 39), none, .load 1 false (.t 38)⟩, ⟨(some 40), none, .mov (.t 0)⟩, ⟨(some 41), none, .nck (.t 40)⟩, ⟨(some 42), none, .fad 1 (.t 41)⟩, ⟨(some 43), none, .load 1 false (.t 42)⟩, ⟨(some 44), none, .iad 1 (.t 39) (.t 43)⟩, ⟨(some 45), none, .load 1 false (.t 44)⟩, ⟨(some 46), none, .cvi .i64 (.t 45)⟩, ⟨(some 47), none, .bin .add (.t 35) (.t 46)⟩, ⟨(some 48), none, .bin .and (.t 47) (.k (.int .i64 255))⟩, ⟨(some 3), none, .mov (.t 48)⟩]) (.reg false [⟨(some 49), none, .mov (.t 0)⟩, ⟨(some 50), none, .mov (.t 0)⟩, ⟨(some 51), none, .nck (.t 50)⟩, ⟨(some 52), none, .fad 1 (.t 51)⟩, ⟨(some 53), none, .load 1 false (.t 52)⟩, ⟨(some 54), none, .bin .add (.t 53) (.k (.int .i64 1))⟩, ⟨(some 55), none, .nck (.t 49)⟩, ⟨(some 56), none, .fad 1 (.t 55)⟩, ⟨none, none, .store 1 (.t 56) (.t 54)⟩])) .skip)) (.seq (.reg false [⟨(some 57), none, .mov (.t 3)⟩, ⟨(some 2), none, .mov (.t 57)⟩]) .ret)))))
theorem LG : aF Try.prog (Try.f62.body.getD .skip) = some N9 := by kernel_rfl
theorem TA (l : List UInt8) : El 1 (l.map lu8) := fun d hd => by obtain ⟨x, _, rfl⟩ := List.mem_map.1 hd; exact ⟨rfl, rfl⟩
set_option maxHeartbeats 4000000 in
theorem Un (l : List UInt8) (i h : Int) (h0 : 0 ≤ i) (h1 : i ≤ l.length) (hl : l.length ≤ 1048576) : eP Try.prog 62 [] (bQ l i h) (fun r os' c' => (∃ x : Int, 0 ≤ x ∧ x ≤ 255 ∧ r = .c false [.raw (.int .i64 x)]) ∧ os' = [] ∧ mJ l c') := by
  refine iY (fn := Try.f62) (r := .tmp 2) (by kernel_rfl) (by kernel_rfl) (by kernel_rfl) LG ?_
  unfold N9 bQ
  change eU _ _ _ _ (stS 58 _ _ _)
  refine sS trivial ?_
  by_cases hlt : i < (l.length : Int)
  · have hT : decide (i < (l.length : Int)) = true := decide_eq_true hlt
    obtain ⟨k, rfl⟩ := Int.eq_ofNat_of_zero_le h0
    have hk : k < l.length := by omega
    have hg : idx (l.map lu8) (some (k : Int)) = some (.leaf (.int .u8 ((l[k]).toNat : Int))) := dR lu8 l hk
    repeat' (first | ((with_reducible refine hK _ ?_); clear hK K) | (with_reducible refine ak ?_ ?_) | ((with_reducible refine aH ?_); refine ss (XR hT hg) ?_) | ((with_reducible refine bJ ?_); refine sx (XR hT hg) ?_) | refine nv ?_ | (refine rD ?_; intro K hK) | (with_reducible (refine cS rfl ?_ ?_) <;> (intro hb hb'; first | (exfalso; omega) | skip)) | exact aZ | exact aI)
    all_goals first
      | exact TA l
      | exact ⟨false, _, [], _, [], ⟨⟨_, (AO _).1, (AO _).2, rfl⟩, rfl, _, _, by omega, by omega, rfl⟩, rfl, rfl, rfl, by simp, trivial, rfl, _, rfl, ⟨rfl, trivial⟩⟩
  · have hT : decide (i < (l.length : Int)) = false := decide_eq_false hlt
    repeat' (first | ((with_reducible refine hK _ ?_); clear hK K) | (with_reducible refine ak ?_ ?_) | ((with_reducible refine aH ?_); refine ss hT ?_) | ((with_reducible refine bJ ?_); refine sx hT ?_) | refine nv ?_ | (refine rD ?_; intro K hK) | (with_reducible (refine cS rfl ?_ ?_) <;> (intro hb hb'; first | (exfalso; omega) | skip)) | exact aZ | exact aI)
    exact ⟨false, _, [], _, [], ⟨⟨_, (AO _).1, (AO _).2, rfl⟩, rfl, _, _, h0, h1, rfl⟩, rfl, rfl, rfl, by simp, trivial, rfl, _, rfl, ⟨rfl, trivial⟩⟩
def JB : IC := (.seq (.reg false [⟨(some 4), none, .mov (.k (.int .i64 0))⟩]) (.seq (.seq (.reg false [⟨(some 9), none, .mov (.t 1)⟩, ⟨(some 10), none, .bin .leq (.t 9) (.k (.int .i64 0))⟩]) (.cond (.t 10) (.seq (.reg false [⟨(some 4), none, .mov (.k (.int .i64 0))⟩]) .ret) .skip)) (.seq (.seq (.reg false [⟨(some 11), none, .mov (.t 1)⟩, ⟨(some 12), none, .bin .leq (.t 11) (.k (.int .i64 256))⟩]) (.cond (.t 12) (.seq (.reg false [⟨(some 13), none, .mov (.t 0)⟩, ⟨(some 14), none, .call 62 [(.t 13)]⟩, ⟨(some 15), none, .mov (.t 1)⟩, ⟨(some 16), none, .bin .rem (.t 14) (.t 15)⟩, ⟨(some 4), none, .mov (.t 16)⟩]) .ret) .skip)) (.seq (.reg false [⟨(some 17), none, .mov (.t 0)⟩, ⟨(some 18), none, .call 62 [(.t 17)]⟩, ⟨(some 5), none, .mov (.t 18)⟩]) (.seq (.reg false [⟨(some 19), none, .mov (.t 0)⟩, ⟨(some 20), none, .call 62 [(.t 19)]⟩, ⟨(some 6), none, .mov (.t 20)⟩]) (.seq (.reg false [⟨(some 21), none, .mov (.t 0)⟩, ⟨(some 22), none, .call 62 [(.t 21)]⟩, ⟨(some 7), none, .mov (.t 22)⟩]) (.seq (.reg false [⟨(some 23), none, .mov (.t 0)⟩, ⟨(some 24), none, .call 62 [(.t 23)]⟩, ⟨(some 8), none, .mov (.t 24)⟩]) (.seq (.reg false [⟨(some 25), none, .mov (.t 5)⟩, ⟨(some 26), none, .bin .mul (.t 25) (.k (.int .i64 16777216))⟩, ⟨(some 27), none, .mov (.t 6)⟩, ⟨(some 28), none, .bin .mul (.t 27) (.k (.int .i64 65536))⟩, ⟨(some 29), none, .bin .add (.t 26) (.t 28)⟩, ⟨(some 30), none, .mov (.t 7)⟩, ⟨(some 31), none, .bin .mul (.t 30) (.k (.int .i64 256))⟩, ⟨(some 32), none, .bin .add (.t 29) (.t 31)⟩, ⟨(some 33), none, .mov (.t 8)⟩, ⟨(some 34), none, .bin .add (.t 32) (.t 33)⟩, ⟨(some 35), none, .mov (.t 1)⟩, ⟨(some 36), none, .bin .rem (.t 34) (.t 35)⟩, ⟨(some 4), none, .mov (.t 36)⟩]) .ret))))))))
theorem JA : aF Try.prog (Try.f49.body.getD .skip) = some JB := by kernel_rfl
theorem Ai {a n : Int} (h : 0 ≤ a) (hn : 0 < n) : 0 ≤ a.tmod n ∧ a.tmod n < n := ⟨Int.tmod_nonneg _ h, Int.tmod_lt_of_pos _ hn⟩
set_option maxHeartbeats 4000000 in
theorem aY (l : List UInt8) (i h : Int) (n : Int) (h0 : 0 ≤ i) (h1 : i ≤ l.length) (hl : l.length ≤ 1048576) (hn : n ≤ 1099511627776) : eP Try.prog 49 [li n] (bQ l i h) (fun r os' c' => (∃ x : Int, 0 ≤ x ∧ (0 < n → x < n) ∧ (n ≤ 0 → x = 0) ∧ r = .c false [.raw (.int .i64 x)]) ∧ os' = [] ∧ mJ l c') := by
  refine iY (fn := Try.f49) (r := .tmp 4) (by kernel_rfl) (by kernel_rfl) (by kernel_rfl) JA ?_
  unfold JB bQ
  change eU _ _ _ _ (stS 37 _ _ _)
  refine sS trivial ?_
  by_cases hn0 : n ≤ 0
  · have hT : decide (n ≤ 0) = true := decide_eq_true hn0
    repeat' (first | ((with_reducible refine aG ?_); intro K hK) | ((with_reducible refine hK _ ?_); clear hK K) | (with_reducible refine ak ?_ ?_) | ((with_reducible refine aH ?_); refine ss (XR hT @bQ.eq_1) ?_) | refine nv ?_ | (with_reducible (refine cS rfl ?_ ?_) <;> (intro hb hb'; first | (exfalso; omega) | skip)) | exact aZ | exact aI)
    exact ⟨false, _, [], _, [], ⟨⟨0, Int.le_refl _, fun hp => absurd hn0 (by omega), fun _ => rfl, rfl⟩, rfl, _, _, ‹_›, ‹_›, rfl⟩, rfl, rfl, rfl, by simp, trivial, rfl, _, rfl, ⟨rfl, trivial⟩⟩
  · have hT : decide (n ≤ 0) = false := decide_eq_false hn0
    have hz : (n = 0) = False := eq_false (by omega)
    by_cases hs : n ≤ 256
    · have hT2 : decide (n ≤ 256) = true := decide_eq_true hs
      repeat' (first | ((with_reducible refine aG ?_); intro K hK) | ((with_reducible refine hK _ ?_); clear hK K) | (with_reducible refine ak ?_ ?_) | ((with_reducible refine aU ?_); first | (refine aN true (h := (Un l _ _ (by assumption) (by assumption) hl)) (hK := ?_); rintro _ _ _ ⟨⟨x, hx0, hx1, rfl⟩, rfl, i, h, hi0, hi1, rfl⟩)) | ((with_reducible refine aH ?_); refine ss (XR hT (XR hT2 (XR hz @bQ.eq_1))) ?_) | refine nv ?_ | (with_reducible (refine cS rfl ?_ ?_) <;> (intro hb hb'; first | (exfalso; omega) | skip)) | exact aZ | exact aI)
      exact ⟨false, _, [], _, [], ⟨⟨_, (Ai hx0 (by omega)).1, fun hp => (Ai hx0 hp).2, fun hp => absurd hp hn0, rfl⟩, rfl, _, _, ‹_›, ‹_›, rfl⟩, rfl, rfl, rfl, by simp, trivial, rfl, _, rfl, ⟨rfl, trivial⟩⟩
    · have hT2 : decide (n ≤ 256) = false := decide_eq_false hs
      repeat' (first | ((with_reducible refine aG ?_); intro K hK) | ((with_reducible refine hK _ ?_); clear hK K) | (with_reducible refine ak ?_ ?_) | ((with_reducible refine aU ?_); first | (refine aN true (h := (Un l _ _ (by assumption) (by assumption) hl)) (hK := ?_); rintro _ _ _ ⟨⟨x, hx0, hx1, rfl⟩, rfl, i, h, hi0, hi1, rfl⟩)) | ((with_reducible refine aH ?_); refine ss (XR hT (XR hT2 (XR hz @bQ.eq_1))) ?_) | refine nv ?_ | (with_reducible (refine cS rfl ?_ ?_) <;> (intro hb hb'; first | (exfalso; omega) | skip)) | exact aZ | exact aI)
      exact ⟨false, _, [], _, [], ⟨⟨_, (Ai (by omega) (by omega)).1, fun hp => (Ai (by omega) hp).2, fun hp => absurd hp hn0, rfl⟩, rfl, _, _, ‹_›, ‹_›, rfl⟩, rfl, rfl, rfl, by simp, trivial, rfl, _, rfl, ⟨rfl, trivial⟩⟩
def NZ : IC := (.seq (.reg false [⟨(some 4), none, .mov (.k (.bool false))⟩]) (.seq (.reg false [⟨(some 5), none, .mov (.t 0)⟩, ⟨(some 6), none, .mov (.t 1)⟩, ⟨(some 7), none, .call 49 [(.t 5), (.t 6)]⟩, ⟨(some 8), none, .bin .eql (.t 7) (.k (.int .i64 0))⟩, ⟨(some 4), none, .mov (.t 8)⟩]) .ret))
theorem Lu : aF Try.prog (Try.f42.body.getD .skip) = some NZ := by kernel_rfl
set_option maxHeartbeats 4000000 in
theorem lK (l : List UInt8) (i h : Int) (n : Int) (h0 : 0 ≤ i) (h1 : i ≤ l.length) (hl : l.length ≤ 1048576) (hn : n ≤ 1099511627776) : eP Try.prog 42 [li n] (bQ l i h) (fun r os' c' => (∃ b : Bool, r = .c false [.raw (.bool b)]) ∧ os' = [] ∧ mJ l c') := by
  refine iY (fn := Try.f42) (r := .tmp 4) (by kernel_rfl) (by kernel_rfl) (by kernel_rfl) Lu ?_
  unfold NZ bQ
  change eU _ _ _ _ (stS 9 _ _ _)
  refine sS trivial ?_
  repeat' (first | ((with_reducible refine aG ?_); intro K hK) | ((with_reducible refine hK _ ?_); clear hK K) | (with_reducible refine ak ?_ ?_) | ((with_reducible refine aU ?_); first | (refine aN true (h := (aY l _ _ _ (by assumption) (by assumption) hl hn)) (hK := ?_); rintro _ _ _ ⟨⟨x, hx0, hx1, hx2, rfl⟩, rfl, i, h, hi0, hi1, rfl⟩)) | ((with_reducible refine aH ?_); refine ss @bQ.eq_1 ?_) | refine nv ?_ | (with_reducible (refine cS rfl ?_ ?_) <;> (intro hb hb'; first | (exfalso; omega) | skip)) | exact aZ | exact aI)
  exact ⟨false, _, [], _, [], ⟨⟨_, rfl⟩, rfl, _, _, ‹_›, ‹_›, rfl⟩, rfl, rfl, rfl, by simp, trivial, rfl, _, rfl, ⟨rfl, trivial⟩⟩
def NY : IC := (.seq (.reg false [⟨(some 4), none, .mov (.k (.string ⟨#[]⟩))⟩]) (.seq (.reg false [⟨(some 5), none, .mov (.t 1)⟩, ⟨(some 6), none, .mov (.t 0)⟩, ⟨(some 7), none, .mov (.t 1)⟩, ⟨(some 8), none, .len false (.t 7)⟩, ⟨(some 9), none, .call 49 [(.t 6), (.t 8)]⟩, ⟨(some 10), none, .iad 1 (.t 5) (.t 9)⟩, ⟨(some 11), none, .load 1 false (.t 10)⟩, ⟨(some 4), none, .mov (.t 11)⟩]) .ret))
theorem Ls : aF Try.prog (Try.f51.body.getD .skip) = some NY := by kernel_rfl
set_option maxHeartbeats 4000000 in
theorem Bo (l : List UInt8) (i h : Int) (q : List ByteArray) (h0 : 0 ≤ i) (h1 : i ≤ l.length) (hl : l.length ≤ 1048576) (hq : 0 < q.length) (hq2 : q.length ≤ 1048576) : eP Try.prog 51 [.sl (q.map ls)] (bQ l i h) (fun r os' c' => (∃ s ∈ q, r = .c false [.raw (.string s)]) ∧ os' = [] ∧ mJ l c') := by
  refine iY (fn := Try.f51) (r := .tmp 4) (by kernel_rfl) (by kernel_rfl) (by kernel_rfl) Ls ?_
  unfold NY bQ
  change eU _ _ _ _ (stS 12 _ _ _)
  refine sS trivial ?_
  repeat' (first | ((with_reducible refine aG ?_); intro K hK) | ((with_reducible refine hK _ ?_); clear hK K) | (with_reducible refine ak ?_ ?_) | ((with_reducible refine aU ?_); first | (refine aN true (h := (aY l _ _ (q.length : Int) (by assumption) (by assumption) hl (by omega))) (hK := ?_); rintro _ _ _ ⟨⟨x, hx0, hx1, hx2, rfl⟩, rfl, i, h, hi0, hi1, rfl⟩)) | ((with_reducible refine aH ?_); refine ss @bQ.eq_1 ?_) | refine nv ?_ | (with_reducible (refine cS rfl ?_ ?_) <;> (intro hb hb'; first | (exfalso; omega) | skip)) | exact aZ | exact aI)
  all_goals first
    | exact jr _
    | skip
  obtain ⟨k, rfl⟩ := Int.eq_ofNat_of_zero_le hx0
  have hk : k < q.length := by have := hx1 (by omega); omega
  have hg : idx (q.map ls) (some (k : Int)) = some (ls q[k]) := dR ls q hk
  repeat' (first | ((with_reducible refine aG ?_); intro K hK) | ((with_reducible refine hK _ ?_); clear hK K) | (with_reducible refine ak ?_ ?_) | ((with_reducible refine aH ?_); refine ss (XR hg @bQ.eq_1) ?_) | refine nv ?_ | (with_reducible (refine cS rfl ?_ ?_) <;> (intro hb hb'; first | (exfalso; omega) | skip)) | exact aZ | exact aI)
  exact ⟨false, _, [], _, [], ⟨⟨_, List.getElem_mem hk, rfl⟩, rfl, _, _, ‹_›, ‹_›, rfl⟩, rfl, rfl, rfl, by simp, trivial, rfl, _, rfl, ⟨rfl, trivial⟩⟩
def BN : IC := (.seq (.reg false [⟨(some 4), none, .mov (.k (.int .i64 0))⟩]) (.seq (.reg false [⟨(some 5), none, .mov (.t 1)⟩, ⟨(some 6), none, .mov (.t 0)⟩, ⟨(some 7), none, .mov (.t 1)⟩, ⟨(some 8), none, .len false (.t 7)⟩, ⟨(some 9), none, .call 49 [(.t 6), (.t 8)]⟩, ⟨(some 10), none, .iad 1 (.t 5) (.t 9)⟩, ⟨(some 11), none, .load 1 false (.t 10)⟩, ⟨(some 4), none, .mov (.t 11)⟩]) .ret))
theorem DL : aF Try.prog (Try.f50.body.getD .skip) = some BN := by kernel_rfl
set_option maxHeartbeats 4000000 in
theorem ru (l : List UInt8) (i h : Int) (q : List Int) (h0 : 0 ≤ i) (h1 : i ≤ l.length) (hl : l.length ≤ 1048576) (hq : 0 < q.length) (hq2 : q.length ≤ 1048576) : eP Try.prog 50 [.sl (q.map li)] (bQ l i h) (fun r os' c' => (∃ s ∈ q, r = .c false [.raw (.int .i64 s)]) ∧ os' = [] ∧ mJ l c') := by
  refine iY (fn := Try.f50) (r := .tmp 4) (by kernel_rfl) (by kernel_rfl) (by kernel_rfl) DL ?_
  unfold BN bQ
  change eU _ _ _ _ (stS 12 _ _ _)
  refine sS trivial ?_
  repeat' (first | ((with_reducible refine aG ?_); intro K hK) | ((with_reducible refine hK _ ?_); clear hK K) | (with_reducible refine ak ?_ ?_) | ((with_reducible refine aU ?_); first | (refine aN true (h := (aY l _ _ (q.length : Int) (by assumption) (by assumption) hl (by omega))) (hK := ?_); rintro _ _ _ ⟨⟨x, hx0, hx1, hx2, rfl⟩, rfl, i, h, hi0, hi1, rfl⟩)) | ((with_reducible refine aH ?_); refine ss @bQ.eq_1 ?_) | refine nv ?_ | (with_reducible (refine cS rfl ?_ ?_) <;> (intro hb hb'; first | (exfalso; omega) | skip)) | exact aZ | exact aI)
  all_goals first
    | exact jW _
    | skip
  obtain ⟨k, rfl⟩ := Int.eq_ofNat_of_zero_le hx0
  have hk : k < q.length := by have := hx1 (by omega); omega
  have hg : idx (q.map li) (some (k : Int)) = some (li q[k]) := dR li q hk
  repeat' (first | ((with_reducible refine aG ?_); intro K hK) | ((with_reducible refine hK _ ?_); clear hK K) | (with_reducible refine ak ?_ ?_) | ((with_reducible refine aH ?_); refine ss (XR hg @bQ.eq_1) ?_) | refine nv ?_ | (with_reducible (refine cS rfl ?_ ?_) <;> (intro hb hb'; first | (exfalso; omega) | skip)) | exact aZ | exact aI)
  exact ⟨false, _, [], _, [], ⟨⟨_, List.getElem_mem hk, rfl⟩, rfl, _, _, ‹_›, ‹_›, rfl⟩, rfl, rfl, rfl, by simp, trivial, rfl, _, rfl, ⟨rfl, trivial⟩⟩
end Go.Proofs.Ytnongnchpplacaa

