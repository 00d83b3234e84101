/-
  Texts joined: Nbs Eds.
-/
import Derived.Test.YtnongnchpplacaaJW
import Derived.Test.YtnongnchpplacaaJO
import Derived.Test.YtnongnchpplacaaJA
import Derived.Test.YtnongnchpplacaaJS
namespace Go.Proofs.Ytnongnchpplacaa
open Go.RowKit
set_option linter.unusedSimpArgs false
set_option linter.unusedVariables false
theorem rW (x y : GNb) (hn : x.cells.length ≤ 1048576) : aK Try.prog 16 [x.toD, y.toD] (.c false [.raw (.bool (decide (x.cells = y.cells)))]) := pW fun w vs hr => by
  obtain ⟨v, u, rfl, h1, h2⟩ := Px hr
  obtain ⟨fp, a, rfl, hS, _⟩ := uF h1
  obtain ⟨fq, b, rfl, hT, _⟩ := uF h2
  exact vM x.cells y.cells fp fq a b w hS hT hn
theorem VZ {H : Type} {enc : TypeId × Value → H} {P : Program} {w : World} {spare : Nat → Bool} {t : TypeId} (ht : P.underlying t = some (.int .u8)) (fuel : Nat) : Rdg enc P w spare lu8 t fuel := fun cs x h => by
  obtain ⟨n, rfl, _, hw⟩ := DataW.trod_int ht h
  have hw2 : (decide (IntKind.u8.min ≤ n) && decide (n ≤ IntKind.u8.max)) = true := hw
  rw [show IntKind.u8.min = 0 from rfl, show IntKind.u8.max = 255 from rfl] at hw2
  simp at hw2
  have hn : ((UInt8.ofNat n.toNat).toNat : Int) = n := by
    rw [UInt8.toNat_ofNat']
    omega
  refine ⟨UInt8.ofNat n.toNat, ⟨[], rfl, ?_⟩, ?_⟩
  · show [Value.int .u8 n] = [Value.int .u8 ((UInt8.ofNat n.toNat).toNat : Int)]
    rw [hn]
  · show (Lit.int .u8 ((UInt8.ofNat n.toNat).toNat : Int)).wf = true
    rw [hn]
    exact hw
theorem J8 : Try.prog.cellsOf 5 = 1 := by kernel_rfl
theorem Vr {H : Type} {enc : TypeId × Value → H} {w : World} {spare : Nat → Bool} (fuel : Nat) : Rdg enc Try.prog w spare (fun l : List UInt8 => .sl (l.map lu8)) 22 fuel := Py Try.underlying22 J8 (fun y => rfl) (by omega) fuel fun n _ => VZ Try.underlying5 n
def QL : IC := (.seq (.reg false [⟨(some 2), none, .mov (.k (.bool false))⟩]) (.seq (.reg false [⟨(some 3), none, .mov (.t 0)⟩, ⟨(some 4), none, .len false (.t 3)⟩, ⟨(some 5), none, .bin .gtr (.t 4) (.k (.int .i64 1048576))⟩, ⟨(some 2), none, .mov (.t 5)⟩]) .ret))
theorem NV : aF Try.prog (Try.f7.body.getD .skip) = some QL := by kernel_rfl
theorem SB (l : List UInt8) : aK Try.prog 7 [.sl (l.map lu8)] (.c false [.raw (.bool (decide ((l.length : Int) > 1048576)))]) := by
  refine gG (fn := Try.f7) (t := 2) (by kernel_rfl) (by kernel_rfl) (by kernel_rfl) NV ?_
  unfold QL
  change AWP _ _ _ (st0 6 _)
  refine sS tdX ?_
  repeat' (first | ((with_reducible refine aG ?_); intro K hK) | ((with_reducible refine hK _ ?_); clear hK K) | (with_reducible refine ak ?_ ?_) | ((with_reducible refine aH ?_); refine ss (And.intro tdC @gZ) ?_) | refine nv ?_ | (with_reducible (refine cS rfl ?_ ?_) <;> (intro hb hb'; first | (exfalso; omega) | skip)) | (exact GCell.el _) | exact aY | exact aI)
  exact aS ⟨_, rfl, ⟨rfl, trivial⟩⟩
end Go.Proofs.Ytnongnchpplacaa

namespace Go.Proofs.Ytnongnchpplacaa
open Go.RowKit
set_option linter.unusedSimpArgs false
set_option linter.unusedVariables false
theorem Pq {w : World} : ∀ {es : List GEdit} {fp : List Nat} {cs : List Value}, Rs w (es.map edF) fp cs → Rs w (es.map GEdit.toD) fp cs
  | [], _, _, h => h
  | e :: es, fp, cs, h => by
    obtain ⟨f1, f2, c1, c2, h1, h2, h3, h4⟩ := h
    exact ⟨f1, f2, c1, c2, h1, h2, GEdit.opened.2 ((BH e).1 h3), Pq h4⟩
theorem Vq {w : World} {es : List GEdit} {v : Value} (h : Rd w (.sl (es.map edF)) v) : Rd w (.sl (es.map GEdit.toD)) v := by
  obtain ⟨fp, h⟩ := h
  refine ⟨fp, ?_⟩
  rw [R] at h ⊢
  obtain ⟨A, cap, h1, h2, h3, h4⟩ := h
  simp only [List.length_map] at h1 h2 ⊢
  refine ⟨A, cap, h1, h2, h3, ?_⟩
  rcases h4 with ⟨h4, h5⟩ | ⟨b, o, fp', cs', h4, h5, h6, h7, h8⟩
  · exact Or.inl ⟨by simpa using h4, h5⟩
  · exact Or.inr ⟨b, o, fp', cs', h4, h5, h6, Pq h7, h8⟩
theorem OZ {P : Program} {f : Nat} {d : D} {es : List GEdit} {r : AV} (h : aK P f [d, .sl (es.map GEdit.toD)] r) : aK P f [d, .sl (es.map edF)] r := fun w vs hr ht => by
  match vs, hr with
  | [a, b], ⟨h1, h2, _⟩ => exact h w [a, b] ⟨h1, Vq h2, trivial⟩ ht
theorem x9 : ∀ {es : List GEdit}, (∀ e ∈ es, ny e) → D.wfs (es.map GEdit.toD)
  | [], _ => trivial
  | e :: es, h => ⟨I7 (h e (by simp)), x9 fun y hy => h y (by simp [hy])⟩
def kJ (l : List GCell) (es : List GEdit) : List GCell × List Int := fV l es es.length
theorem BZ (l : List GCell) (es : List GEdit) {k : Nat} (hk : k ≤ es.length) : ∀ j, j ≤ k → fV l (es.take k) j = fV l es j
  | 0, _ => rfl
  | j + 1, h => by
    rw [jI l es (by omega), jI l (es.take k) (by rw [List.length_take]; omega), BZ l es hk j (by omega)]
    simp
theorem Ei (l : List GCell) (es : List GEdit) (k : Nat) : ∀ j, k + j ≤ es.length → fV l es (k + j) = ((fV (fV l es k).1 (es.drop k) j).1, (fV l es k).2 ++ (fV (fV l es k).1 (es.drop k) j).2)
  | 0, _ => by simp [fV]
  | j + 1, h => by
    have ih := Ei l es k j (by omega)
    rw [show k + (j + 1) = (k + j) + 1 by omega, jI l es (by omega), jI _ (es.drop k) (by rw [List.length_drop]; omega), ih]
    simp
theorem zh (l : List GCell) (es : List GEdit) {k : Nat} (hk : k ≤ es.length) : kJ l es = ((kJ (kJ l (es.take k)).1 (es.drop k)).1, (kJ l (es.take k)).2 ++ (kJ (kJ l (es.take k)).1 (es.drop k)).2) := by
  have h1 : kJ l (es.take k) = fV l es k := by
    unfold kJ
    rw [List.length_take, Nat.min_eq_left hk]
    exact BZ l es hk k (Nat.le_refl _)
  have h2 := Ei l es k (es.length - k) (by omega)
  rw [h1]
  unfold kJ
  rw [List.length_drop]
  rw [show k + (es.length - k) = es.length by omega] at h2
  exact h2
def yR : IC := (.seq (.reg false [⟨(some 4), none, .mov (.k (.bool false))⟩]) (.seq (.seq (.reg false [⟨(some 6), none, .mov (.t 0)⟩, ⟨(some 7), none, .len false (.t 6)⟩, ⟨(some 8), none, .mov (.t 1)⟩, ⟨(some 9), none, .len false (.t 8)⟩, ⟨(some 10), none, .bin .neq (.t 7) (.t 9)⟩]) (.cond (.t 10) (.seq (.reg false [⟨(some 4), none, .mov (.k (.bool false))⟩]) .ret) .skip)) (.seq (.seq (.reg false [⟨(some 5), none, .mov (.k (.int .i64 0))⟩]) (.block 0 (.loop (.seq (.seq (.reg false [⟨(some 11), none, .mov (.t 5)⟩, ⟨(some 12), none, .mov (.t 0)⟩, ⟨(some 13), none, .len false (.t 12)⟩, ⟨(some 14), none, .bin .lss (.t 11) (.t 13)⟩]) (.cond (.t 14) .skip (.exit 0))) (.seq (.block 1 (.seq (.reg true [⟨(some 17), none, .mov (.t 0)⟩, ⟨(some 18), none, .mov (.t 5)⟩, ⟨(some 19), none, .iad 1 (.t 17) (.t 18)⟩, ⟨(some 20), none, .load 1 false (.t 19)⟩, ⟨(some 21), none, .mov (.t 1)⟩, ⟨(some 22), none, .mov (.t 5)⟩, ⟨(some 23), none, .iad 1 (.t 21) (.t 22)⟩, ⟨(some 24), none, .load 1 false (.t 23)⟩, ⟨(some 25), none, .bin .neq (.t 20) (.t 24)⟩]) (.cond (.t 25) (.seq (.reg false [⟨(some 4), none, .mov (.k (.bool false))⟩]) .ret) .skip))) (.reg false [⟨(some 15), none, .mov (.t 5)⟩, ⟨(some 16), none, .bin .add (.t 15) (.k (.int .i64 1))⟩, ⟨(some 5), none, .mov (.t 16)⟩])))))) (.seq (.reg false [⟨(some 4), none, .mov (.k (.bool true))⟩]) .ret))))
theorem AY : aF Try.prog (Try.f28.body.getD .skip) = some yR := by kernel_rfl
theorem Q8 {xs : List Int} {k : Nat} (h : k < xs.length) : idx (xs.map li) (some (k : Int)) = some (li xs[k]) := dI li xs h
theorem yM (xs ys : List Int) (hx : xs.length ≤ 1048576) (hy : ys.length ≤ 1048576) : aK Try.prog 28 [.sl (xs.map li), .sl (ys.map li)] (.c false [.raw (.bool (decide (xs = ys)))]) := by
  refine gG (fn := Try.f28) (t := 4) (by kernel_rfl) (by kernel_rfl) (by kernel_rfl) AY ?_
  unfold yR
  change AWP _ _ _ (st0 26 _)
  refine sS tdX ?_
  by_cases hl : xs.length = ys.length
  · have hne : ((xs.length : Int) != (ys.length : Int)) = false := by simp [hl]
    repeat' (first | ((with_reducible refine hK _ ?_); clear hK K) | (with_reducible refine ak ?_ ?_) | ((with_reducible refine aH ?_); refine ss (And.intro tdC (And.intro @gZ hne)) ?_) | ((with_reducible refine bC ?_); refine sx (And.intro tdC (And.intro @gZ hne)) ?_) | refine nv ?_ | (refine rD ?_; intro K hK) | (with_reducible (refine cS rfl ?_ ?_) <;> (intro hb hb'; first | (exfalso; omega) | skip)) | (exact GCell.el _) | exact aY | exact aI)
    refine jP (X := Nat) (fun z => [.k, .k, .d, .d, .d, .v (.c false [.raw (.int .i64 ((z : Nat)))]), .d, .d, .d, .d, .d, .d, .d, .d, .d, .d, .d, .d, .d, .d, .d, .d, .d, .d, .d, .d]) (fun _ => []) (fun _ _ => []) (fun z => z ≤ xs.length ∧ xs.take z = ys.take z) (fun z => xs.length - z) 0 ⟨Nat.zero_le _, rfl⟩ ?_ ?_
    · simp [fZ, iR, gI, gJ, AV.fits, AC.fits, FB, eU]
    rintro z ⟨hz, htk⟩
    simp only [FB, eU]
    by_cases hlt : z < xs.length
    · have hT : decide ((z : Int) < (xs.length : Int)) = true := decide_eq_true (by omega)
      have hw1 : IntKind.i64.wrap ((z : Int) + 1) = ((z + 1 : Nat) : Int) := dY (by omega)
      have hlt2 : z < ys.length := by omega
      have g1 := Q8 hlt
      have g2 := Q8 hlt2
      by_cases he : xs[z] = ys[z]
      · have hq : (xs[z] != ys[z]) = false := by simp [he]
        repeat' (first | ((with_reducible refine hK _ ?_); clear hK K) | (with_reducible refine ak ?_ ?_) | ((with_reducible refine aH ?_); refine ss (And.intro tdC (And.intro @gZ (And.intro hT (And.intro hw1 (And.intro g1 (And.intro g2 hq)))))) ?_) | ((with_reducible refine bC ?_); refine sx (And.intro tdC (And.intro @gZ (And.intro hT (And.intro hw1 (And.intro g1 (And.intro g2 hq)))))) ?_) | refine nv ?_ | (refine rD ?_; intro K hK) | (with_reducible (refine cS rfl ?_ ?_) <;> (intro hb hb'; first | (exfalso; omega) | skip)) | (exact GCell.el _) | exact aY | exact aI)
        all_goals first
          | exact jk _
          | (refine iU (z + 1) ?_ ⟨by omega, by rw [List.take_succ_eq_append_getElem hlt, List.take_succ_eq_append_getElem hlt2, htk, he]⟩ (show xs.length - (z + 1) < xs.length - z by omega)
             simp [fZ, iR, gI, gJ, AV.fits, AC.fits, FB, eU])
      · have hq : (xs[z] != ys[z]) = true := by simp [he]
        have hd : decide (xs = ys) = false := decide_eq_false (fun e => he (by simp [e]))
        repeat' (first | ((with_reducible refine hK _ ?_); clear hK K) | (with_reducible refine ak ?_ ?_) | ((with_reducible refine aH ?_); refine ss (And.intro tdC (And.intro @gZ (And.intro hT (And.intro hw1 (And.intro g1 (And.intro g2 hq)))))) ?_) | ((with_reducible refine bC ?_); refine sx (And.intro tdC (And.intro @gZ (And.intro hT (And.intro hw1 (And.intro g1 (And.intro g2 hq)))))) ?_) | refine nv ?_ | (refine rD ?_; intro K hK) | (with_reducible (refine cS rfl ?_ ?_) <;> (intro hb hb'; first | (exfalso; omega) | skip)) | (exact GCell.el _) | exact aY | exact aI)
        all_goals first
          | exact jk _
          | exact aS ⟨_, rfl, ⟨by simp [dA, hd], trivial⟩⟩
    · have hT : decide ((z : Int) < (xs.length : Int)) = false := decide_eq_false (by omega)
      have hd : decide (xs = ys) = true := decide_eq_true (by rw [List.take_of_length_le (by omega), List.take_of_length_le (by omega)] at htk; exact htk)
      repeat' (first | ((with_reducible refine hK _ ?_); clear hK K) | (with_reducible refine ak ?_ ?_) | ((with_reducible refine aH ?_); refine ss (And.intro tdC (And.intro @gZ hT)) ?_) | ((with_reducible refine bC ?_); refine sx (And.intro tdC (And.intro @gZ hT)) ?_) | refine nv ?_ | (refine rD ?_; intro K hK) | (with_reducible (refine cS rfl ?_ ?_) <;> (intro hb hb'; first | (exfalso; omega) | skip)) | (exact GCell.el _) | exact aY | exact aI)
      exact aS ⟨_, rfl, ⟨by simp [dA, hd], trivial⟩⟩
  · have hne : ((xs.length : Int) != (ys.length : Int)) = true := by simp; omega
    have hd : decide (xs = ys) = false := decide_eq_false (fun e => hl (by rw [e]))
    repeat' (first | ((with_reducible refine hK _ ?_); clear hK K) | (with_reducible refine ak ?_ ?_) | ((with_reducible refine aH ?_); refine ss (And.intro tdC (And.intro @gZ hne)) ?_) | ((with_reducible refine bC ?_); refine sx (And.intro tdC (And.intro @gZ hne)) ?_) | refine nv ?_ | (refine rD ?_; intro K hK) | (with_reducible (refine cS rfl ?_ ?_) <;> (intro hb hb'; first | (exfalso; omega) | skip)) | (exact GCell.el _) | exact aY | exact aI)
    exact aS ⟨_, rfl, ⟨by simp [dA, hd], trivial⟩⟩
def QM : IC := (.seq (.reg false [⟨(some 4), none, .mov (.k (.int .i64 0))⟩]) (.seq (.seq (.reg false [⟨(some 5), none, .mov (.t 1)⟩, ⟨(some 6), none, .mov (.t 0)⟩, ⟨(some 7), none, .len false (.t 6)⟩, ⟨(some 8), none, .bin .lss (.t 5) (.t 7)⟩]) (.cond (.t 8) (.seq (.reg false [⟨(some 9), none, .mov (.t 0)⟩, ⟨(some 10), none, .mov (.t 1)⟩, ⟨(some 11), none, .iad 1 (.t 9) (.t 10)⟩, ⟨(some 12), none, .load 1 false (.t 11)⟩, ⟨(some 13), none, .cvi .i64 (.t 12)⟩, ⟨(some 4), none, .mov (.t 13)⟩]) .ret) .skip)) (.seq (.reg false [⟨(some 14), none, .mov (.t 1)⟩, ⟨(some 15), none, .bin .mul (.t 14) (.k (.int .i64 7))⟩, ⟨(some 16), none, .mov (.t 0)⟩, ⟨(some 17), none, .len false (.t 16)⟩, ⟨(some 18), none, .bin .add (.t 15) (.t 17)⟩, ⟨(some 19), none, .bin .rem (.t 18) (.k (.int .i64 256))⟩, ⟨(some 4), none, .mov (.t 19)⟩]) .ret)))
theorem NW : aF Try.prog (Try.f29.body.getD .skip) = some QM := by kernel_rfl
theorem Wu (l : List UInt8) (hl : l.length ≤ 1048576) : fB Try.prog 29 [.sl (l.map lu8), li 1] (fun r os' => (∃ y : Nat, r = .c false [.raw (.int .i64 (y : Int))]) ∧ os' = []) := by
  refine nZ (fn := Try.f29) (r := .tmp 4) (by kernel_rfl) (by kernel_rfl) (by kernel_rfl) NW ?_
  unfold QM
  change AWP _ _ _ (st0 20 _)
  refine sS tdX ?_
  by_cases hlt : 1 < l.length
  · have hT : decide ((1 : Int) < (l.length : Int)) = true := decide_eq_true (by omega)
    have hg : idx (l.map lu8) (some 1) = some (.leaf (.int .u8 ((l[1]).toNat : Int))) := dI lu8 l hlt
    have hb := (l[1]).toNat_lt
    have hw : IntKind.i64.wrap ((l[1]).toNat : Int) = ((l[1]).toNat : Int) := jh (by omega) (by omega)
    repeat' (first | ((with_reducible refine aG ?_); intro K hK) | ((with_reducible refine hK _ ?_); clear hK K) | (with_reducible refine ak ?_ ?_) | ((with_reducible refine aH ?_); refine ss (And.intro tdC (And.intro @gZ (And.intro hT (And.intro hg hw)))) ?_) | refine nv ?_ | (with_reducible (refine cS rfl ?_ ?_) <;> (intro hb hb'; first | (exfalso; omega) | skip)) | (exact GCell.el _) | exact aY | exact aI)
    all_goals first
      | exact J5 l
      | exact gq rfl rfl ⟨⟨_, rfl⟩, rfl⟩
  · have hT : decide ((1 : Int) < (l.length : Int)) = false := decide_eq_false (by omega)
    have hw : IntKind.i64.wrap (IntKind.i64.wrap (1 * 7) + (l.length : Int)) = 7 + (l.length : Int) := jh (by rw [show IntKind.i64.wrap (1 * 7) = 7 from rfl]; omega) (by rw [show IntKind.i64.wrap (1 * 7) = 7 from rfl]; omega)
    have hz : ((256 : Int) = 0) = False := eq_false (by decide)
    have ht := vX (a := 7 + (l.length : Int)) (n := 256) (by omega) (by decide)
    repeat' (first | ((with_reducible refine aG ?_); intro K hK) | ((with_reducible refine hK _ ?_); clear hK K) | (with_reducible refine ak ?_ ?_) | ((with_reducible refine aH ?_); refine ss (And.intro tdC (And.intro @gZ (And.intro hT (And.intro hw hz)))) ?_) | refine nv ?_ | (with_reducible (refine cS rfl ?_ ?_) <;> (intro hb hb'; first | (exfalso; omega) | skip)) | (exact GCell.el _) | exact aY | exact aI)
    exact gq rfl rfl ⟨⟨(Int.tmod (7 + (l.length : Int)) 256).toNat, by rw [Int.toNat_of_nonneg ht.1, show (1 * 7 + (l.length : Int)) = 7 + (l.length : Int) by omega]⟩, rfl⟩
end Go.Proofs.Ytnongnchpplacaa

