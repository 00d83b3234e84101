/-
  Every name is defined once, defined several times, or missing.
-/
import Derived.Test.YtfjmoicellpnhaaGreatJV
namespace Go.Proofs.YtfjmoicellpnhaaGreat
open Go.RowKit
set_option linter.unusedSimpArgs false
set_option linter.unusedVariables false
theorem aas (l : List GPart) (i : Int) (hn : l.length ≤ 1048576) : aS Tryz.prog 28 [.sl (l.map pF), li i] (.c false [.raw (.bool (NP l i))]) := aS.pF (tY fun w vs hr => by
  obtain ⟨v, u, rfl, h1, h2⟩ := Rt hr
  obtain ⟨fp, hS⟩ := yM h1
  obtain rfl := o8 h2
  exact xZ l i fp v w hS hn)
theorem aaT (l : List GPart) (hn : l.length ≤ 1048576) : aS Tryz.prog 27 [.sl (l.map pF)] (.c false [.sl true ((lZ (dB l false l.length)).map ls)]) := aS.pF (E8 fun w vs hr => by
  obtain ⟨v, rfl, h1⟩ := LD hr
  obtain ⟨fp, hS⟩ := yM h1
  exact xg l fp v w hS hn)
theorem aaU (l : List GPart) (hn : l.length ≤ 1048576) : aS Tryz.prog 29 [.sl (l.map pF)] (.c false [.sl true ((lZ (dB l true l.length)).map ls)]) := aS.pF (E8 fun w vs hr => by
  obtain ⟨v, rfl, h1⟩ := LD hr
  obtain ⟨fp, hS⟩ := yM h1
  exact uK l fp v w hS hn)
/-! The plain law -/
theorem tq (l : List GPart) (nm : ByteArray) : ∀ (k : Nat) (z : Int), z ∈ cu l nm k ↔ ∃ (j : Nat) (h : j < l.length), j < k ∧ z = (j : Int) ∧ qA l[j] nm = true
  | 0, z => by simp [cu]
  | k + 1, z => by
    rw [cu, List.mem_append, tq l nm k z]
    constructor
    · rintro (⟨j, h, h1, h2⟩ | h)
      · exact ⟨j, h, by omega, h2⟩
      · split at h
        · next x hx =>
          obtain ⟨hk, rfl⟩ := List.getElem?_eq_some_iff.1 hx
          split at h
          · next hd => simp only [List.mem_singleton] at h; exact ⟨k, hk, by omega, h, hd⟩
          · simp at h
        · simp at h
    · rintro ⟨j, h, h1, h2, h3⟩
      by_cases e : j = k
      · subst e
        refine Or.inr ?_
        rw [List.getElem?_eq_getElem h]
        simp [h3, h2]
      · exact Or.inl ⟨j, h, by omega, h2, h3⟩
theorem G6 (l : List GPart) (sv : Bool) : ∀ (k : Nat) (s : ByteArray), s ∈ dB l sv k ↔ ∃ (j : Nat) (h : j < l.length), j < k ∧ s = l[j].name ∧ vZ l sv l[j] = true
  | 0, s => by simp [dB]
  | k + 1, s => by
    rw [dB, List.mem_append, G6 l sv k s]
    constructor
    · rintro (⟨j, h, h1, h2⟩ | h)
      · exact ⟨j, h, by omega, h2⟩
      · split at h
        · next x hx =>
          obtain ⟨hk, rfl⟩ := List.getElem?_eq_some_iff.1 hx
          split at h
          · next hd => simp only [List.mem_singleton] at h; exact ⟨k, hk, by omega, h, hd⟩
          · simp at h
        · simp at h
    · rintro ⟨j, h, h1, h2, h3⟩
      by_cases e : j = k
      · subst e
        refine Or.inr ?_
        rw [List.getElem?_eq_getElem h]
        simp [h3, h2]
      · exact Or.inl ⟨j, h, by omega, h2, h3⟩
theorem AX {x : GPart} {nm : ByteArray} (h : qA x nm = true) : x.name = nm ∧ (x.kind != 1) = true := by
  unfold qA at h
  simp only [Bool.and_eq_true, decide_eq_true_eq] at h
  exact ⟨h.2, h.1⟩
/-- A name that some part defines stands among the names with one definer, or with several. -/
theorem G7 (l : List GPart) (nm : ByteArray) (sv : Bool) : nY (lZ (dB l sv l.length)) nm = (decide (cu l nm l.length ≠ []) && (decide (1 < (cu l nm l.length).length) == sv)) := by
  rw [Bool.eq_iff_iff, BH, QZ, G6, Bool.and_eq_true, decide_eq_true_eq]
  constructor
  · rintro ⟨j, h, h1, rfl, h3⟩
    unfold vZ at h3
    simp only [Bool.and_eq_true] at h3
    refine ⟨fun e => ?_, h3.2⟩
    have : ((j : Nat) : Int) ∈ cu l l[j].name l.length := (tq l _ _ _).2 ⟨j, h, h1, rfl, by unfold qA; simp [h3.1]⟩
    rw [e] at this
    simp at this
  · rintro ⟨h1, h2⟩
    obtain ⟨z, hz⟩ := List.exists_mem_of_ne_nil _ h1
    obtain ⟨j, h, h3, rfl, h4⟩ := (tq l nm _ _).1 hz
    obtain ⟨hn, hk⟩ := AX h4
    refine ⟨j, h, h3, hn.symm, ?_⟩
    unfold vZ
    rw [hn, hk, Bool.true_and]
    exact h2
theorem Yx {l : List GPart} {nm : ByteArray} {z : Int} (h : z ∈ cu l nm l.length) : NP l z = decide (1 < (cu l nm l.length).length) := by
  obtain ⟨j, hj, h3, rfl, h4⟩ := (tq l nm _ _).1 h
  obtain ⟨hn, hk⟩ := AX h4
  unfold NP
  rw [if_pos (by omega)]
  simp only [Int.toNat_natCast, List.getElem?_eq_getElem hj]
  rw [hn, hk, Bool.true_and]
/-- The three ways. -/
theorem Uk (l : List GPart) (nm : ByteArray) : (cu l nm l.length = [] ∧ nY (lZ (dB l false l.length)) nm = false ∧ nY (lZ (dB l true l.length)) nm = false) ∨
    (∃ j : Nat, cu l nm l.length = [(j : Int)] ∧ nY (lZ (dB l false l.length)) nm = true ∧ NP l (j : Int) = false) ∨
    (∃ (j : Nat) (y : Int) (r : List Int), cu l nm l.length = (j : Int) :: y :: r ∧ nY (lZ (dB l true l.length)) nm = true ∧ NP l (j : Int) = true) := by
  have a1 := G7 l nm false
  have a2 := G7 l nm true
  cases hd : cu l nm l.length with
  | nil => rw [hd] at a1 a2; exact Or.inl ⟨rfl, by rw [a1]; rfl, by rw [a2]; rfl⟩
  | cons z r =>
    have hz : z ∈ cu l nm l.length := by rw [hd]; simp
    have a3 := Yx hz
    obtain ⟨j, _, _, rfl, _⟩ := (tq l nm _ _).1 hz
    rw [hd] at a1 a2 a3
    cases r with
    | nil => exact Or.inr (Or.inl ⟨j, rfl, by rw [a1]; simp, by rw [a3]; simp⟩)
    | cons y r => exact Or.inr (Or.inr ⟨j, y, r, rfl, by rw [a2]; simp, by rw [a3]; simp⟩)
def MN : IC := (zd_ [zj_ 2 false] (.seq (zd_ [zw_ 7 0, zq_ 8 10 7] (.cond (.t 8) (zd_ [zj_ 2 true] .ret) .skip)) (zd_ [zw_ 10 0, zq_ 11 21 10, zw_ 9 11, zz_ 12 (.ext 0 (.t 9)), zz_ 13 (.ext 1 (.t 9)), zw_ 3 12, zw_ 4 13] (zd_ [zw_ 14 3, zw_ 15 4, zp_ 16 22 14 15, zw_ 5 16] (zd_ [zw_ 17 3, zw_ 18 4, zp_ 19 23 17 18, zw_ 6 19] (.seq (zd_ [zw_ 20 5, zw_ 21 3, zw_ 22 4, zp_ 23 24 21 22, zl_ 24 .neq 20 23, zw_ 25 24, zu_ 26 25 6, zu_ 27 25 3, zu_ 28 25 4, zx_ 29 25 (.call 25 [(.t 27), (.t 28)]), zx_ 30 25 (.call 13 [(.t 26), (.t 29)]), zx_ 31 25 (.not (.t 30)), zg_ 32 25 true 31] (.cond (.t 32) (zd_ [zj_ 2 false] .ret) .skip)) (.seq (.block 0 (zd_ [zw_ 34 5, zm_ 35 .geq 34 0, zw_ 33 35] (.cond (.t 33) (zd_ [zw_ 36 6, zf_ 37 false 36, zm_ 38 .eql 37 1, zw_ 39 38, zv_ 40 39 6, zy_ 41 39 (.iad 1 (.t 40) (.k (.int .i64 0))), zy_ 42 39 (.load 1 false (.t 41)), zv_ 43 39 5, zy_ 44 39 (.bin .eql (.t 42) (.t 43)), zh_ 45 39 44 false, zw_ 46 45, zv_ 47 46 3, zy_ 48 46 (.call 27 [(.t 47)]), zv_ 49 46 4, zy_ 50 46 (.call 26 [(.t 48), (.t 49)]), zh_ 51 46 50 false, zw_ 52 51, zv_ 53 52 3, zv_ 54 52 5, zy_ 55 52 (.call 28 [(.t 53), (.t 54)]), zy_ 56 52 (.not (.t 55)), zh_ 57 52 56 false, zw_ 2 57] .ret) (zd_ [zw_ 59 5, zm_ 60 .eql 59 (-2), zw_ 58 60] (.cond (.t 58) (zd_ [zw_ 61 6, zf_ 62 false 61, zm_ 63 .gtr 62 1, zw_ 64 63, zv_ 65 64 3, zy_ 66 64 (.call 29 [(.t 65)]), zv_ 67 64 4, zy_ 68 64 (.call 26 [(.t 66), (.t 67)]), zh_ 69 64 68 false, zw_ 70 69, zv_ 71 70 3, zv_ 72 70 6, zy_ 73 70 (.iad 1 (.t 72) (.k (.int .i64 0))), zy_ 74 70 (.load 1 false (.t 73)), zy_ 75 70 (.call 28 [(.t 71), (.t 74)]), zh_ 76 70 75 false, zw_ 2 76] .ret) .skip))))) (zd_ [zw_ 77 6, zf_ 78 false 77, zm_ 79 .eql 78 0, zw_ 80 79, zv_ 81 80 3, zy_ 82 80 (.call 27 [(.t 81)]), zv_ 83 80 4, zy_ 84 80 (.call 26 [(.t 82), (.t 83)]), zy_ 85 80 (.not (.t 84)), zh_ 86 80 85 false, zw_ 87 86, zv_ 88 87 3, zy_ 89 87 (.call 29 [(.t 88)]), zv_ 90 87 4, zy_ 91 87 (.call 26 [(.t 89), (.t 90)]), zy_ 92 87 (.not (.t 91)), zh_ 93 87 92 false, zw_ 2 93] .ret))))))))
theorem Ec : ay Tryz.prog (Tryz.f4.body.getD .skip) = some MN := by kernel_rfl
set_option maxRecDepth 8000 in
set_option maxHeartbeats 32000000 in
theorem Rk (l : List UInt8) (hl : l.length ≤ 1048576) : aS Tryz.prog 4 [.sl (l.map lu8)] (.c false [.raw (.bool (true))]) := by
  refine fE (fn := Tryz.f4) (t := 2) (by kernel_rfl) (by kernel_rfl) (by kernel_rfl) Ec ?_
  unfold MN; refine zb_ ?_
  change AWP _ _ _ (st0 94 _)
  refine sS tdX ?_
  have hB := WZ l
  rw [decide_eq_false (by omega : ¬ (l.length : Int) > 1048576)] at hB
  repeat' (first | ((with_reducible refine au ?_); intro K hK) | ((with_reducible refine hK _ ?_); clear hK K) | (with_reducible refine aj ?_ ?_) | ((with_reducible refine gi ?_); first | (refine aA ?_ ?_; rfl) | (refine aB ?_ ?_; (rfl; refine gF ?_)) | ((with_reducible refine gS rfl ?_ ?_) <;> (intro hb hb'; try (exfalso; omega)))) | ((with_reducible refine aP ?_); first | refine aK (hc := hB) (h := ?_) | ((refine Cj (SS l _ hl) ?_); rintro _ _ _ ⟨ps, i, h, hp1, hp2, ⟨nm, rfl⟩, rfl, rfl⟩)) | ((with_reducible refine aC ?_); refine ss tdE ?_) | refine nv ?_ | (with_reducible (refine cS rfl ?_ ?_) <;> (intro hb hb'; try (exfalso; omega))) | exact aO | exact aF)
  have hn : ps.length ≤ 1048576 := by omega
  have r1 := LC ps nm hn
  have r2 := Lu ps nm hn
  have d1 := NS ps nm hn
  have d2 := NR ps nm hn
  have w1 := aaT ps hn
  have w2 := aaU ps hn
  have b1 := fun z => aas ps z hn
  have hl1 := DT (dB ps false ps.length)
  have hl2 := DT (dB ps true ps.length)
  have hl3 := kM ps false ps.length
  have hl4 := kM ps true ps.length
  have hl5 := mG ps nm ps.length
  have s1 := H8 (cu ps nm ps.length) (cu ps nm ps.length) (by omega) (by omega)
  simp only [decide_true] at s1
  have t1 := Qj (lZ (dB ps false ps.length)) nm (by omega)
  have t2 := Qj (lZ (dB ps true ps.length)) nm (by omega)
  clear hl1 hl2 hl3 hl4 hl5
  obtain ⟨k, hk⟩ : ∃ k, k = Um (cu ps nm ps.length) := ⟨_, rfl⟩
  rw [← hk] at r1 r2
  have f0 : (k != k) = false := by simp
  have f9 : (k == k) = true := by simp
  have rw_ := Uk ps nm
  obtain ⟨dl, hD⟩ : ∃ dl, dl = cu ps nm ps.length := ⟨_, rfl⟩
  rw [← hD] at hk d1 d2 s1 rw_
  clear hD
  rcases rw_ with ⟨e, h1, h2⟩ | ⟨j, e, h1, h2⟩ | ⟨j, y, r, e, h1, h2⟩
  · have f1 : decide (k ≥ 0) = false := by rw [hk, e]; rfl
    have f2 : (k == -2) = false := by rw [hk, e]; rfl
    have f3 : ((dl.length : Int) == 0) = true := by rw [e]; rfl
    rw [h1] at t1
    rw [h2] at t2
    clear e hk
    repeat' (first | ((with_reducible refine au ?_); intro K hK) | ((with_reducible refine hK _ ?_); clear hK K) | (with_reducible refine aj ?_ ?_) | ((with_reducible refine gi ?_); first | (refine aA ?_ ?_; rfl) | (refine aB ?_ ?_; (rfl; refine gF ?_)) | ((with_reducible refine gS rfl ?_ ?_) <;> (intro hb hb'; try (exfalso; omega)))) | ((with_reducible refine aP ?_); first | refine aK (hc := r1) (h := ?_) | refine aK (hc := r2) (h := ?_) | refine aK (hc := d1) (h := ?_) | refine aK (hc := d2) (h := ?_) | refine aK (hc := s1) (h := ?_) | refine aK (hc := w1) (h := ?_) | refine aK (hc := w2) (h := ?_) | refine aK (hc := t1) (h := ?_) | refine aK (hc := t2) (h := ?_)) | ((with_reducible refine aC ?_); refine ss (aaV tdE (aaV f0 (aaV f1 (aaV f2 (aaV f3 f9))))) ?_) | refine nv ?_ | (with_reducible (refine cS rfl ?_ ?_) <;> (intro hb hb'; try (exfalso; omega))) | exact aO | exact aF)
    all_goals exact dM ⟨_, rfl, ⟨rfl, trivial⟩⟩
  · have hkj : k = (j : Int) := by rw [hk, e]; rfl
    have f1 : decide (k ≥ 0) = true := decide_eq_true (by omega)
    have f3 : ((dl.length : Int) == 1) = true := by rw [e]; rfl
    have f4 : idx (dl.map li) (some 0) = some (li k) := by rw [e, hkj]; rfl
    have b2 := b1 k
    rw [h1] at t1
    rw [← hkj] at h2
    rw [h2] at b2
    clear e hk b1
    repeat' (first | ((with_reducible refine au ?_); intro K hK) | ((with_reducible refine hK _ ?_); clear hK K) | (with_reducible refine aj ?_ ?_) | ((with_reducible refine gi ?_); first | (refine aA ?_ ?_; rfl) | (refine aB ?_ ?_; (rfl; refine gF ?_)) | ((with_reducible refine gS rfl ?_ ?_) <;> (intro hb hb'; try (exfalso; omega)))) | ((with_reducible refine aP ?_); first | refine aK (hc := r1) (h := ?_) | refine aK (hc := r2) (h := ?_) | refine aK (hc := d1) (h := ?_) | refine aK (hc := d2) (h := ?_) | refine aK (hc := s1) (h := ?_) | refine aK (hc := w1) (h := ?_) | refine aK (hc := w2) (h := ?_) | refine aK (hc := t1) (h := ?_) | refine aK (hc := b2) (h := ?_)) | ((with_reducible refine aC ?_); refine ss (aaV tdE (aaV f0 (aaV f1 (aaV f3 (aaV f4 f9))))) ?_) | refine nv ?_ | (with_reducible (refine cS rfl ?_ ?_) <;> (intro hb hb'; try (exfalso; omega))) | exact aO | exact aF)
    all_goals first
      | exact gu _
      | exact dM ⟨_, rfl, ⟨rfl, trivial⟩⟩
  · have f1 : decide (k ≥ 0) = false := by rw [hk, e]; rfl
    have f2 : (k == -2) = true := by rw [hk, e]; rfl
    have f3 : decide ((dl.length : Int) > 1) = true := by rw [e]; exact decide_eq_true (by simp only [List.length_cons]; omega)
    have f4 : idx (dl.map li) (some 0) = some (li (j : Int)) := by rw [e]; rfl
    have b2 := b1 (j : Int)
    rw [h1] at t2
    rw [h2] at b2
    clear e hk b1
    repeat' (first | ((with_reducible refine au ?_); intro K hK) | ((with_reducible refine hK _ ?_); clear hK K) | (with_reducible refine aj ?_ ?_) | ((with_reducible refine gi ?_); first | (refine aA ?_ ?_; rfl) | (refine aB ?_ ?_; (rfl; refine gF ?_)) | ((with_reducible refine gS rfl ?_ ?_) <;> (intro hb hb'; try (exfalso; omega)))) | ((with_reducible refine aP ?_); first | refine aK (hc := r1) (h := ?_) | refine aK (hc := r2) (h := ?_) | refine aK (hc := d1) (h := ?_) | refine aK (hc := d2) (h := ?_) | refine aK (hc := s1) (h := ?_) | refine aK (hc := w1) (h := ?_) | refine aK (hc := w2) (h := ?_) | refine aK (hc := t2) (h := ?_) | refine aK (hc := b2) (h := ?_)) | ((with_reducible refine aC ?_); refine ss (aaV tdE (aaV f0 (aaV f1 (aaV f2 (aaV f3 (aaV f4 f9)))))) ?_) | refine nv ?_ | (with_reducible (refine cS rfl ?_ ?_) <;> (intro hb hb'; try (exfalso; omega))) | exact aO | exact aF)
    all_goals first
      | exact gu _
      | exact dM ⟨_, rfl, ⟨rfl, trivial⟩⟩
set_option maxRecDepth 8000 in
set_option maxHeartbeats 8000000 in
theorem XK (l : List UInt8) (hl : ¬ l.length ≤ 1048576) : aS Tryz.prog 4 [.sl (l.map lu8)] (.c false [.raw (.bool (true))]) := by
  refine fE (fn := Tryz.f4) (t := 2) (by kernel_rfl) (by kernel_rfl) (by kernel_rfl) Ec ?_
  unfold MN; refine zb_ ?_
  change AWP _ _ _ (st0 94 _)
  refine sS tdX ?_
  have hB := WZ l
  rw [decide_eq_true (by omega : (l.length : Int) > 1048576)] at hB
  repeat' (first | ((with_reducible refine au ?_); intro K hK) | ((with_reducible refine hK _ ?_); clear hK K) | (with_reducible refine aj ?_ ?_) | ((with_reducible refine gi ?_); first | (refine aA ?_ ?_; rfl) | (refine aB ?_ ?_; (rfl; refine gF ?_)) | ((with_reducible refine gS rfl ?_ ?_) <;> (intro hb hb'; try (exfalso; omega)))) | ((with_reducible refine aP ?_); first | refine aK (hc := hB) (h := ?_)) | ((with_reducible refine aC ?_); refine ss (aaV tdC @gX) ?_) | refine nv ?_ | (with_reducible (refine cS rfl ?_ ?_) <;> (intro hb hb'; try (exfalso; omega))) | (exact GCell.el _) | exact aO | exact aF)
  exact dM ⟨_, rfl, ⟨rfl, trivial⟩⟩
theorem AP (l : List UInt8) (fp : List Nat) (v : Value) (w : World) (h : Sl w (l.map lu8) fp v) : Calls Tryz.prog 4 #[v] w (Xk w) := by
  have hC : aS Tryz.prog 4 [.sl (l.map lu8)] (.c false [.raw (.bool (true))]) := by
    by_cases hl : l.length ≤ 1048576
    · exact Rk l hl
    · exact XK l hl
  refine (ZC hC (vs := [v]) ⟨Ur h, trivial⟩).mono ?_
  rintro e w' ⟨h1, h2⟩
  exact ⟨h1, h2⟩
open Go.ChangeShapes Go.WideShapes Go.ChangeAt
set_option maxRecDepth 100000 in
theorem wH (os : Os) (started : os.Started) (H : Type) (enc : TypeId × Value → H) :
    ReturnsInHanded {} Tryz.checked os 4 .any (Rows.fnResolvedSpec.pre6 enc Tryz.prog Tryz.f4 Rows.fnResolvedRow.domain false) (Rows.fnResolvedSpec.post enc Tryz.prog Tryz.f4 false true false false) := by
  refine returnsInHanded_of_change (C := Tryz.checked) aaO started (by kernel_rfl) Tryz.func4
    (ChangeSpec.witness6 (enc := enc) (C := Tryz.checked) false ⟨#[], #[.slice none 0 0], []⟩ 8 (by kernel_rfl) (by kernel_rfl) (by kernel_rfl) (by kernel_rfl)) ?_
  intro W base args ds gs before hval0 hW hcnd _
  have hval : ∀ (j : Nat) t v, Tryz.f4.params[j]? = some t → args[j]? = some v → Value.okWide Tryz.prog W .any base t v := hval0
  have hW' := hW
  obtain ⟨p, q, hA0, hV, rfl, hfz, hnd⟩ := hW
  have hA : DataW.TrodAll enc Tryz.prog W 0 (fun _ => true) true Tryz.f4.params.toList args.toList ds p := hA0
  rw [Tryz.params4] at hA hval
  obtain ⟨v0, vs0, d0, ds0, p0, q0, ha0, rfl, rfl, h0, r0⟩ := trodAll_cons hA
  obtain ⟨rfl, rfl, rfl⟩ := trodAll_nil r0
  obtain rfl : args = #[v0] := by cases args; simp_all
  obtain ⟨rfl, rfl⟩ := trodVars_none hV
  obtain ⟨l0, fx0, hx0, wx0⟩ := Tn Tryz.underlying22 (hval 0 22 v0 rfl rfl) (fun n => Zz n) h0
  clear hA0 hval0
  have hlt : ∀ z ∈ p0 ++ [], z.block < W.heap.size := fun z hz => hW'.lt z (by simpa using hz)
  refine (AP l0 fx0 _ W hx0).mono fun e W' ⟨he, hb⟩ => ?_
  subst he
  exact ⟨_, rfl, Di (pa := p0 ++ []) (pv := []) hW' (fun _ _ _ => trodAll_mk1 (shut_bool Tryz.underlying4 _))
    (fun sp hsp => ⟨_, _, WideElems.Trod_stays Vt (by kernel_rfl) (of_decide_eq_true (by kernel_rfl)) h0 (fun z hz => hb.same (hlt z (List.mem_append_left _ hz))) (fun z hz => hsp z (by simp [hz])), rfl, rfl⟩) (fun _ _ => rfl) (by simp) hb (ok_one (by kernel_rfl) rfl (okWide_bool_mk Tryz.underlying4 _))⟩
theorem proved_FnResolved : Rows.FnResolvedSaid :=
  OpenClaim.holds_of_wide 4 Tryz.f4 rfl rfl rfl rfl rfl rfl rfl ⟨rfl, rfl, rfl, rfl, rfl⟩ rfl rfl rfl rfl rfl (by kernel_rfl) Tryz.func4 (by kernel_rfl)
    (of_decide_eq_true (by kernel_rfl)) (by unfold Func.isWrapper; first | (rw [if_pos (by decide +kernel)]; kernel_rfl) | (rw [if_neg (by decide +kernel)]; exact ⟨rfl, rfl⟩))
    (fun os started H enc _ => wH os started H enc)
end Go.Proofs.YtfjmoicellpnhaaGreat
