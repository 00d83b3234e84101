/-
  Texts joined: Prt Lge.
-/
import Derived.Test.YtfjmoicellpnhaaGreatJT
namespace Go.Proofs.YtfjmoicellpnhaaGreat
open Go.RowKit
set_option linter.unusedSimpArgs false
set_option linter.unusedVariables false
theorem aau {P : Program} {t : Nat} {l : List UInt8} {ps : List D} {i h : Int} {st : St} {post : AV → List Own → List AC → Prop} (h1 : st.fr.getD t .any = .c false [.sl true ps]) (h0 : st.boxes[0]? = some (bK l i h)) (hq : post (.c false [.sl true ps]) [] (bK l i h)) : iG (oU P (.tmp t) post) .ret st :=
  ⟨false, _, [], _, [], hq, rfl, h0, rfl, by simp, trivial, rfl, _, h1, ⟨⟨rfl, rfl, rfl⟩, trivial⟩⟩
theorem Kw {W : Nat} {x : GCell} {z : ByteArray} (h : nT W x) (hz : z.size ≤ 8) : nT W { x with name := z } := ⟨h.1, h.2.1, h.2.2.1, h.2.2.2.1, Nat.le_trans hz (by decide), h.2.2.2.2.2⟩
def Bh : IC := (zd_ [zz_ 2 (.mov (.k (.slice none 0 0)))] (zd_ [zw_ 5 0, zn_ 6 88 5 8, zz_ 3 (.alloc [(.slice none 0 0)]), ⟨none, none, .store 1 (.t 3) (.t 6)⟩] (.seq (zd_ [zk_ 4 0] (.block 0 (.loop (.seq (zd_ [zw_ 7 4, zt_ 8 0 3, zs_ 9 1 8, zf_ 10 false 9, zl_ 11 .lss 7 10] (.cond (.t 11) .skip (.exit 0))) (.seq (.block 1 (zd_ [zt_ 14 0 3, zs_ 15 1 14, zw_ 16 4, ze_ 17 6 15 16, zt_ 18 2 17, zs_ 19 1 18, zm_ 20 .neq 19 1, zw_ 21 20, zv_ 22 21 0, zy_ 23 21 (.call 83 [(.t 22), (.k (.int .i64 8))]), zh_ 24 21 23 false] (.cond (.t 24) (.regN true [] [zt_ 25 0 3, zs_ 26 1 25, zw_ 27 4, zw_ 28 0, zz_ 29 (.brow false 9 1 2 false [(.k (.string ⟨#[97]⟩)), (.k (.string ⟨#[98]⟩))]), zp_ 30 89 28 29, ze_ 31 6 26 27, zt_ 32 3 31, ⟨none, none, .store 1 (.t 32) (.t 30)⟩]) .skip))) (.reg false [zw_ 12 4, zm_ 13 .add 12 1, zw_ 4 13])))))) (zd_ [zr_ 33 1 3, zq_ 34 90 33, zw_ 2 34] .ret))))
theorem Dq : ay Tryz.prog (Tryz.f65.body.getD .skip) = some Bh := by kernel_rfl
set_option maxRecDepth 8000 in
set_option maxHeartbeats 16000000 in
theorem Ry (l : List UInt8) (i h : Int)  (h0 : 0 ≤ i) (h1 : i ≤ l.length) (hl : l.length ≤ 1048576) : aV Tryz.prog 65 [] (bK l i h) (fun r os' c' => (ER r) ∧ os' = [] ∧ nD l c') := by
  refine eP (fn := Tryz.f65) (r := .tmp 2) (by kernel_rfl) (by kernel_rfl) (by kernel_rfl) Dq ?_
  unfold Bh bK; refine zb_ ?_
  change dA _ _ _ _ (stS 35 _ _ _)
  refine sS tdX ?_
  repeat' (first | ((with_reducible refine hK _ ?_); clear hK K) | (with_reducible refine aj ?_ ?_) | ((with_reducible refine gi ?_); first | (refine aA ?_ ?_; rfl) | (refine aB ?_ ?_; (rfl; refine gF ?_)) | ((with_reducible refine gS rfl ?_ ?_) <;> (intro hb hb'; try (exfalso; omega)))) | ((with_reducible refine gxi ?_); first | (refine bT ?_ ?_; rfl) | (refine bU ?_ ?_; (rfl; refine gxF ?_)) | ((with_reducible refine gxS rfl ?_ ?_) <;> (intro hb hb'; try (exfalso; omega)))) | ((with_reducible refine aP ?_); first | (refine aG true (h := (Xr l _ _ 8 (by assumption) (by assumption) hl (by decide))) (hK := ?_); rintro _ _ _ ⟨⟨cs, hcs, hall, rfl, rfl⟩, i, h, hi0, hi1, rfl⟩)) | ((with_reducible refine aC ?_); refine ss tdE ?_) | ((with_reducible refine bV ?_); refine sx tdE ?_) | refine nv ?_ | (refine rD ?_; intro K hK) | (with_reducible (refine cS rfl ?_ ?_) <;> (intro hb hb'; try (exfalso; omega))) | (exact GCell.el _) | exact aO | exact aF)
  have hcs9 : cs.length ≤ 9 := by omega
  refine jh (X := Nat × Bool × List GCell × Int × Int) (fun z => [.k, .d, .d, .k, .v (.c false [.raw (.int .i64 ((z.1 : Nat)))]), .d, .d, .d, .d, .d, .d, .d, .d, .d, .d, .d, .d, .d, .d, .d, .d, .d, .d, .d, .d, .d, .d, .d, .d, .d, .d, .d, .d, .d, .d]) (fun z => [⟨z.2.2.1.map GCell.toD, 85, 6, 0, ⟨true, z.2.1⟩⟩]) (fun z _ => [bK l z.2.2.2.1 z.2.2.2.2, [.own 0 0]])
    (fun z => z.1 ≤ z.2.2.1.length ∧ z.2.2.1.length ≤ 9 ∧ (∀ x ∈ z.2.2.1, nT 5000 x) ∧ 0 ≤ z.2.2.2.1 ∧ z.2.2.2.1 ≤ l.length) (fun z => z.2.2.1.length - z.1) (0, true, cs, i, h) ⟨Nat.zero_le _, by omega, fun x hx => (hall x hx).mono (by decide), hi0, hi1⟩ (fun z => ⟨Nat.zero_le _, by simp⟩) ?_ ?_
  · simp [bI, dh, bM, bP, AV.fits, AC.fits, FB, bn, bK]
  clear hcs hall hcs9
  rintro ⟨k, m, cs, i, h⟩ ⟨hk0, hcs, hall, hi0, hi1⟩
  simp only at hk0 hcs hall hi0 hi1
  simp only [FB, bn]
  by_cases hk : k < cs.length
  · have hT : decide ((k : Int) < (cs.length : Int)) = true := decide_eq_true (by omega)
    have hw1 : (k : Int) + 1 = ((k + 1 : Nat) : Int) := by omega
    have hg : idx (cs.map GCell.toD) (some (k : Int)) = some (cs[k]).toD := dG GCell.toD cs hk
    have hg2 := ZP hk
    have hck := hall _ (List.getElem_mem hk)
    repeat' (first | ((with_reducible refine au ?_); intro K hK) | ((first | ((with_reducible refine aH false ?_ ?_); rfl) | ((with_reducible refine aH true ?_ ?_); rfl)); intro K hK) | ((first | (with_reducible refine aI 0 false aW ?_) | (refine aI 0 false (by simp [dR, St.ev]) ?_)); intro K hK) | refine nN ?_ | ((with_reducible refine hK _ ?_); clear hK K) | (with_reducible refine aj ?_ ?_) | ((with_reducible refine gi ?_); first | (refine aA ?_ ?_; rfl) | (refine aB ?_ ?_; (rfl; refine gF ?_)) | ((with_reducible refine gS rfl ?_ ?_) <;> (intro hb hb'; try (exfalso; omega)))) | ((with_reducible refine gxi ?_); first | (refine bT ?_ ?_; rfl) | (refine bU ?_ ?_; (rfl; refine gxF ?_)) | ((with_reducible refine gxS rfl ?_ ?_) <;> (intro hb hb'; try (exfalso; omega)))) | ((with_reducible refine iD ?_); first | (refine dW ?_ ?_; rfl) | (refine dX ?_ ?_; (rfl; refine gnF ?_))) | ((with_reducible refine aP ?_); first | (refine aG true (h := (qJ l _ _ (8) (by assumption) (by assumption) hl (by decide))) (hK := ?_); rintro _ _ _ ⟨⟨_ | _, rfl⟩, rfl, i, h, hi0, hi1, rfl⟩) | (refine aG true (h := (lI l _ _ 8 [(⟨#[97]⟩ : ByteArray), (⟨#[98]⟩ : ByteArray)] (by assumption) (by assumption) hl (by simp) (by simp) (by decide))) (hK := ?_); rintro _ _ _ ⟨⟨y, hy, rfl⟩, rfl, i, h, hi0, hi1, rfl⟩)) | ((with_reducible refine eG ?_); first | (refine gy true (h := (lI l _ _ 8 [(⟨#[97]⟩ : ByteArray), (⟨#[98]⟩ : ByteArray)] (by assumption) (by assumption) hl (by simp) (by simp) (by decide))) (hne := ⟨_, [], bK l 0 0, ⟨⟨⟨#[]⟩, Nat.zero_le _, rfl⟩, rfl, 0, 0, by omega, by omega, rfl⟩, rfl⟩) (hr := ?_); rintro _ _ _ ⟨⟨y, hy, rfl⟩, rfl, i, h, hi0, hi1, rfl⟩)) | ((with_reducible refine aC ?_); refine ss (aaV tdE (aaV hT (aaV hw1 (aaV hg (aaV hg2 @gX))))) ?_) | ((with_reducible refine bV ?_); refine sx (aaV tdE (aaV hT (aaV hw1 (aaV hg (aaV hg2 @gX))))) ?_) | refine nv ?_ | (with_reducible (refine cS rfl ?_ ?_) <;> (intro hb hb'; try (exfalso; omega))) | (exact GCell.el _) | exact aO | exact aF)
    all_goals first
      | omega
      | (simp only [List.length_map]; omega)
      | (refine dn (k + 1, _, cs.set k { cs[k] with name := y }, i, h) ⟨?_, ⟨⟨Ua _, rfl, rfl, rfl, rfl⟩, trivial⟩, ⟨rfl, rfl, trivial⟩, rfl⟩ ⟨by simp only [List.length_set]; omega, by simp only [List.length_set]; omega, Xh hall (Kw hck (by omega)), by assumption, by assumption⟩ (show (cs.set k _).length - (k + 1) < cs.length - k by rw [List.length_set]; omega)
         simp [dh, AV.fits, AC.fits, FB, bn]
         done)
      | (refine dn (k + 1, _, cs, i, h) ⟨?_, ⟨⟨rfl, rfl, rfl, rfl, rfl⟩, trivial⟩, ⟨rfl, rfl, trivial⟩, rfl⟩ ⟨by simp only; omega, hcs, hall, by assumption, by assumption⟩ (show cs.length - (k + 1) < cs.length - k by omega)
         simp [dh, AV.fits, AC.fits, FB, bn]
         done)
  · have hT : decide ((k : Int) < (cs.length : Int)) = false := decide_eq_false (by omega)
    repeat' (first | ((with_reducible refine hK _ ?_); clear hK K) | (with_reducible refine aj ?_ ?_) | ((with_reducible refine gi ?_); first | (refine aA ?_ ?_; rfl) | (refine aB ?_ ?_; (rfl; refine gF ?_)) | ((with_reducible refine gS rfl ?_ ?_) <;> (intro hb hb'; try (exfalso; omega)))) | ((with_reducible refine gxi ?_); first | (refine bT ?_ ?_; rfl) | (refine bU ?_ ?_; (rfl; refine gxF ?_)) | ((with_reducible refine gxS rfl ?_ ?_) <;> (intro hb hb'; try (exfalso; omega)))) | ((with_reducible refine aP ?_); first | (refine aY (h := (SY cs (by omega) hall)) (hK := ?_); rintro _ _ ⟨⟨ps, hp1, hp2, rfl⟩, rfl⟩)) | ((with_reducible refine aC ?_); refine ss (aaV tdE hT) ?_) | ((with_reducible refine bV ?_); refine sx (aaV tdE hT) ?_) | refine nv ?_ | (refine rD ?_; intro K hK) | (with_reducible (refine cS rfl ?_ ?_) <;> (intro hb hb'; try (exfalso; omega))) | (exact GCell.el _) | exact aO | exact aF)
    all_goals exact aau rfl rfl ⟨⟨ps, hp1, hp2, rfl⟩, rfl, _, _, ‹_›, ‹_›, rfl⟩
def VD : IC := (zd_ [zz_ 2 (.mov (.k (.pointer none)))] (zd_ [zw_ 5 0, zf_ 6 false 5, zz_ 7 (.bin .add (.k (.int .i64 26583)) (.t 6)), zw_ 3 7] (.seq (zd_ [zk_ 4 0] (.block 0 (.loop (.seq (zd_ [zw_ 8 4, zw_ 9 0, zf_ 10 false 9, zl_ 11 .lss 8 10, zw_ 12 11, zv_ 13 12 4, zy_ 14 12 (.bin .lss (.t 13) (.k (.int .i64 4000))), zh_ 15 12 14 false] (.cond (.t 15) .skip (.exit 0))) (.seq (.block 1 (.reg false [zw_ 18 3, zm_ 19 .mul 18 131, zw_ 20 0, zw_ 21 4, ze_ 22 1 20 21, zs_ 23 1 22, zz_ 24 (.cvi .i64 (.t 23)), zl_ 25 .add 19 24, zm_ 26 .add 25 7, zm_ 27 .and 26 1073741823, zw_ 3 27])) (.reg false [zw_ 16 4, zm_ 17 .add 16 1, zw_ 4 17])))))) (zd_ [zw_ 28 0, zw_ 29 3, zz_ 30 (.bld [(.slice none 0 0), (.int .i64 0), (.int .i64 0)] [(0, 1, (.t 28)), (2, 1, (.t 29))]), zz_ 31 (.box (.t 30)), zw_ 2 31] .ret))))
theorem RX : ay Tryz.prog (Tryz.f56.body.getD .skip) = some VD := by kernel_rfl
set_option maxRecDepth 8000 in
set_option maxHeartbeats 16000000 in
theorem aao (l : List UInt8) (n : Bool) (os : List Own) (bs : List (List AC)) (hl : l.length ≤ 1048576) (hb0 : (bs.all fun xs => xs.all (AC.fits os.length bs.length)) = true) (hb : (bs.all fun xs => xs.all (AC.fits os.length (bs.length + 1))) = true) :
    iZ Tryz.prog 56 [.c false [.sl n (l.map lu8)]] os bs (fun r os' bs' => r = .bptr bs.length 0 ∧ os' = os ∧ ∃ h : Int, bs' = bs ++ [[.sl n (l.map lu8), .raw (.int .i64 0), .raw (.int .i64 h)]]) := by
  refine YJ (fn := Tryz.f56) (rs := [.tmp 2]) (by kernel_rfl) (by kernel_rfl) (by kernel_rfl) RX ?_
  unfold VD; refine zb_ ?_
  change dA _ _ _ _ (stS 32 _ _ _)
  refine sS tdX ?_
  have hw0 : IntKind.i64.wrap (26583 + (l.length : Int)) = 26583 + (l.length : Int) := iy (by omega) (by omega)
  repeat' (first | ((with_reducible refine au ?_); intro K hK) | ((with_reducible refine hK _ ?_); clear hK K) | (with_reducible refine aj ?_ ?_) | ((with_reducible refine gi ?_); first | (refine aA ?_ ?_; rfl) | (refine aB ?_ ?_; (rfl; refine gF ?_)) | ((with_reducible refine gS rfl ?_ ?_) <;> (intro hb hb'; try (exfalso; omega)))) | ((with_reducible refine aC ?_); refine ss (aaV tdC (aaV @gX hw0)) ?_) | refine nv ?_ | (with_reducible (refine cS rfl ?_ ?_) <;> (intro hb hb'; try (exfalso; omega))) | (exact GCell.el _) | (exact GCell.el [⟨_, _, _, _, _, _⟩]) | exact aO | exact aF)
  refine jh (X := Nat × Int) (fun z => [.k, .d, .d, .v (.c false [.raw (.int .i64 z.2)]), .v (.c false [.raw (.int .i64 ((z.1 : Nat)))]), .d, .d, .d, .d, .d, .d, .d, .d, .d, .d, .d, .d, .d, .d, .d, .d, .d, .d, .d, .d, .d, .d, .d, .d, .d, .d, .d]) (fun _ => os) (fun _ _ => bs) (fun z => z.1 ≤ l.length) (fun z => l.length - z.1) (0, 26583 + (l.length : Int)) (Nat.zero_le _) (fun _ => ⟨Nat.le_refl _, Nat.le_refl _⟩) ?_ ?_
  · simp [bI, dh, qI, qR, AV.fits, AC.fits, FB, bn, hb0]
  rintro ⟨k, h⟩ hk
  simp only at hk
  simp only [FB, bn]
  have fin : ∀ {fr : List AV} {b : Nat}, b = bs.length → fr.getD 2 .any = .bptr b 0 → (∃ r os' bs', (r = .bptr bs.length 0 ∧ os' = os ∧ ∃ h : Int, bs' = bs ++ [[.sl n (l.map lu8), .raw (.int .i64 0), .raw (.int .i64 h)]]) ∧ os.length ≤ os'.length ∧ bs.length ≤ bs'.length ∧ aae [.tmp 2] r os' bs' ⟨fr, os, bs ++ [[.sl n (l.map lu8), .raw (.int .i64 0), .raw (.int .i64 h)]]⟩) := by
    intro fr b hb1 h2
    subst hb1
    exact ⟨_, _, _, ⟨rfl, rfl, h, rfl⟩, Nat.le_refl _, by simp, qI _, qR _, by simpa [AC.fits] using hb, h2, by simp [AV.fits]⟩
  by_cases hlt : k < l.length
  · have hT : decide ((k : Int) < (l.length : Int)) = true := decide_eq_true (by omega)
    have hw1 : IntKind.i64.wrap ((k : Int) + 1) = ((k + 1 : Nat) : Int) := dH (by omega)
    have hg : idx (l.map lu8) (some (k : Int)) = some (.leaf (.int .u8 ((l[k]).toNat : Int))) := dG lu8 l hlt
    cases hT2 : decide ((k : Int) < 4000)
    · repeat' (first | ((with_reducible refine au ?_); intro K hK) | ((with_reducible refine hK _ ?_); clear hK K) | (with_reducible refine aj ?_ ?_) | ((with_reducible refine gi ?_); first | (refine aA ?_ ?_; rfl) | (refine aB ?_ ?_; (rfl; refine gF ?_)) | ((with_reducible refine gS rfl ?_ ?_) <;> (intro hb hb'; try (exfalso; omega)))) | ((with_reducible refine aC ?_); refine ss (aaV tdC (aaV @gX (aaV hT (aaV hT2 (aaV hw1 hg))))) ?_) | refine nv ?_ | (with_reducible (refine cS rfl ?_ ?_) <;> (intro hb hb'; try (exfalso; omega))) | (exact GCell.el _) | (exact GCell.el [⟨_, _, _, _, _, _⟩]) | exact aO | exact aF)
      exact fin rfl rfl
    · repeat' (first | ((with_reducible refine au ?_); intro K hK) | ((with_reducible refine hK _ ?_); clear hK K) | (with_reducible refine aj ?_ ?_) | ((with_reducible refine gi ?_); first | (refine aA ?_ ?_; rfl) | (refine aB ?_ ?_; (rfl; refine gF ?_)) | ((with_reducible refine gS rfl ?_ ?_) <;> (intro hb hb'; try (exfalso; omega)))) | ((with_reducible refine aC ?_); refine ss (aaV tdC (aaV @gX (aaV hT (aaV hT2 (aaV hw1 hg))))) ?_) | refine nv ?_ | (with_reducible (refine cS rfl ?_ ?_) <;> (intro hb hb'; try (exfalso; omega))) | (exact GCell.el _) | (exact GCell.el [⟨_, _, _, _, _, _⟩]) | exact aO | exact aF)
      all_goals first
        | exact V8 l
        | (refine dn (k + 1, KD .i64 (IntKind.i64.wrap (IntKind.i64.wrap (IntKind.i64.wrap (h * 131) + IntKind.i64.wrap ((l[k]).toNat : Int)) + 7)) 1073741823) ?_ (show k + 1 ≤ l.length by omega) (show l.length - (k + 1) < l.length - k by omega)
           simp [bI, dh, qI, qR, AV.fits, AC.fits, FB, bn, hb0])
  · have hT : decide ((k : Int) < (l.length : Int)) = false := decide_eq_false (by omega)
    repeat' (first | ((with_reducible refine au ?_); intro K hK) | ((with_reducible refine hK _ ?_); clear hK K) | (with_reducible refine aj ?_ ?_) | ((with_reducible refine gi ?_); first | (refine aA ?_ ?_; rfl) | (refine aB ?_ ?_; (rfl; refine gF ?_)) | ((with_reducible refine gS rfl ?_ ?_) <;> (intro hb hb'; try (exfalso; omega)))) | ((with_reducible refine aC ?_); refine ss (aaV tdC (aaV @gX hT)) ?_) | refine nv ?_ | (with_reducible (refine cS rfl ?_ ?_) <;> (intro hb hb'; try (exfalso; omega))) | (exact GCell.el _) | (exact GCell.el [⟨_, _, _, _, _, _⟩]) | exact aO | exact aF)
    exact fin rfl rfl
theorem Ky {P : Program} {f : Nat} {fn : Func} {code : Code} {ic : IC} {avs : List AV} {os : List Own} {bs : List (List AC)} {post : AV → List Own → List (List AC) → Prop} {t u : Nat} (hf : P.funcs[f]? = some fn) (hb : fn.body = some code) (hr : fn.results = #[.tmp t, .tmp u]) (hc : ay P code = some ic)
    (h : dA (os.length, bs.length) P ic (iG (fun st => ∃ xs ys, st.fr.getD t .any = .c false xs ∧ st.fr.getD u .any = .c false ys ∧ os.length ≤ st.owns.length ∧ bs.length ≤ st.boxes.length ∧ post (.tup [(false, xs), (false, ys)]) st.owns st.boxes)) (stS fn.ntmps avs os bs)) : iZ P f avs os bs post := by
  intro B Xs G w0 fr E a w vs hR hv
  have hol := hR.olen
  have hbl := hR.blen
  simp only at hol hbl
  refine calls_of_wp hf hb ?_
  have := h code hc B Xs ⟨E, os, w⟩ w0 ⟨Nat.le_refl _, by simp only; omega⟩ E _ w (rV hR hv fn.ntmps)
  refine wp_mono this ?_
  rintro e a' w' ⟨st', E', g1, g2⟩
  have fin : (∃ xs ys, st'.fr.getD t .any = .c false xs ∧ st'.fr.getD u .any = .c false ys ∧ os.length ≤ st'.owns.length ∧ bs.length ≤ st'.boxes.length ∧ post (.tup [(false, xs), (false, ys)]) st'.owns st'.boxes) → ∃ v, (results fn a'.tmps).run P w' = .ok v w' ∧ ∃ v' E' r os' bs', post r os' bs' ∧ Ending.returned v = .returned v' ∧ Rel B Xs ⟨E, os, w⟩ w0 ⟨[], os', bs'⟩ E' { tmps := #[], defers := [] } w' ∧ r.ok E' os' w' v' := by
    rintro ⟨xs, ys, q1, q2, _, _, hp⟩
    have k1 := qG g1 q1
    have k2 := qG g1 q2
    exact ⟨_, yL hr a'.tmps (w := w') rfl rfl, _, E', _, _, _, hp, rfl,
      { eb := g1.eb, ex := g1.ex, sim := g1.sim, defers := rfl, size := rfl, fr := fun t y hy => by simp at hy, olen := g1.olen, own := g1.own, blen := g1.blen, box := g1.box, nodup := g1.nodup, lin := g1.lin, unf := g1.unf, below := g1.below, base := g1.base },
      ⟨_, rfl, k1, k2, trivial⟩⟩
  cases e with
  | normal =>
    obtain ⟨v, h3, h4⟩ := fin g2
    exact ⟨g1.defers, v, h3, h4⟩
  | ret =>
    obtain ⟨v, h3, h4⟩ := fin g2
    exact ⟨g1.defers, v, h3, h4⟩
  | _ => exact g2.elim
def Eh : IC := (zd_ [zz_ 2 (.mov (.k (.string ⟨#[]⟩)))] (zd_ [zw_ 3 0, zz_ 4 (.brow false 9 1 7 false [(.k (.string ⟨#[97]⟩)), (.k (.string ⟨#[98]⟩)), (.k (.string ⟨#[99]⟩)), (.k (.string ⟨#[100]⟩)), (.k (.string ⟨#[101]⟩)), (.k (.string ⟨#[122]⟩)), (.k (.string ⟨#[]⟩))]), zp_ 5 89 3 4, zw_ 2 5] .ret))
theorem Gh : ay Tryz.prog (Tryz.f93.body.getD .skip) = some Eh := by kernel_rfl
set_option maxRecDepth 8000 in
set_option maxHeartbeats 16000000 in
theorem Vm (l : List UInt8) (i h : Int)  (h0 : 0 ≤ i) (h1 : i ≤ l.length) (hl : l.length ≤ 1048576) : aV Tryz.prog 93 [] (bK l i h) (fun r os' c' => (∃ z : ByteArray, z.size ≤ 8 ∧ r = .c false [.raw (.string z)]) ∧ os' = [] ∧ nD l c') := by
  refine eP (fn := Tryz.f93) (r := .tmp 2) (by kernel_rfl) (by kernel_rfl) (by kernel_rfl) Gh ?_
  unfold Eh bK; refine zb_ ?_
  change dA _ _ _ _ (stS 6 _ _ _)
  refine sS tdX ?_
  repeat' (first | ((with_reducible refine au ?_); intro K hK) | ((with_reducible refine hK _ ?_); clear hK K) | (with_reducible refine aj ?_ ?_) | ((with_reducible refine aP ?_); first | (refine aG true (h := (lI l _ _ 8 [(⟨#[97]⟩ : ByteArray), (⟨#[98]⟩ : ByteArray), (⟨#[99]⟩ : ByteArray), (⟨#[100]⟩ : ByteArray), (⟨#[101]⟩ : ByteArray), (⟨#[122]⟩ : ByteArray), (⟨#[]⟩ : ByteArray)] (by assumption) (by assumption) hl (by simp) (by simp) (by decide))) (hK := ?_); rintro _ _ _ ⟨⟨s, hs, rfl⟩, rfl, i, h, hi0, hi1, rfl⟩)) | ((with_reducible refine aC ?_); refine ss tdE ?_) | refine nv ?_ | (with_reducible (refine cS rfl ?_ ?_) <;> (intro hb hb'; try (exfalso; omega))) | exact aO | exact aF)
  all_goals exact wW rfl rfl (by assumption) (by assumption) ⟨⟨_, hs, rfl⟩, rfl, _, _, ‹_›, ‹_›, rfl⟩
def BD : IC := (zd_ [zz_ 2 (.mov (.k (.slice none 0 0))), zz_ 3 (.mov (.k (.string ⟨#[]⟩)))] (zd_ [zw_ 5 0, zq_ 6 56 5, zw_ 4 6] (zd_ [zw_ 7 4, zq_ 8 65 7, zw_ 9 4, zq_ 10 93 9, zw_ 2 8, zw_ 3 10] .ret)))
theorem Dx : ay Tryz.prog (Tryz.f62.body.getD .skip) = some BD := by kernel_rfl
set_option maxRecDepth 8000 in
set_option maxHeartbeats 16000000 in
theorem SV (l : List UInt8) (n : Bool) (hl : l.length ≤ 1048576) : iZ Tryz.prog 62 [.c false [.sl n (l.map lu8)]] [] [] (fun r os' bs' => ∃ (ps : List GPart) (i h : Int), ps.length ≤ 9 ∧ (∀ p ∈ ps, p.toD.wt ≤ 60000) ∧ (∃ z : ByteArray, r = .tup [(false, [.sl false (ps.map pF)]), (false, [.raw (.string z)])]) ∧ os' = [] ∧ bs' = [[.sl false (l.map lu8), .raw (.int .i64 i), .raw (.int .i64 h)]]) := by
  refine Ky (fn := Tryz.f62) (t := 2) (u := 3) (by kernel_rfl) (by kernel_rfl) (by kernel_rfl) Dx ?_
  unfold BD; refine zb_ ?_
  change dA _ _ _ _ (stS 11 _ _ _)
  refine sS tdX ?_
  repeat' (first | ((with_reducible refine au ?_); intro K hK) | ((with_reducible refine hK _ ?_); clear hK K) | (with_reducible refine aj ?_ ?_) | ((with_reducible refine aP ?_); first | ((refine Cj (aao l _ _ _ hl (by simp [AC.fits]) (by simp [AC.fits])) ?_); rintro _ _ _ ⟨rfl, rfl, h, rfl⟩) | (refine aG false (h := (Ry l _ _ (by first | assumption | omega) (by first | assumption | omega) hl)) (hK := ?_); rintro _ _ _ ⟨⟨ps, hp1, hp2, rfl⟩, rfl, i, h, hi0, hi1, rfl⟩) | (refine aG false (h := (Vm l _ _ (by first | assumption | omega) (by first | assumption | omega) hl)) (hK := ?_); rintro _ _ _ ⟨⟨z, hz, rfl⟩, rfl, i, h, hi0, hi1, rfl⟩)) | ((with_reducible refine aC ?_); refine ss tdE ?_) | refine nv ?_ | (with_reducible (refine cS rfl ?_ ?_) <;> (intro hb hb'; try (exfalso; omega))) | exact aO | exact aF)
  exact ⟨_, _, rfl, rfl, Nat.zero_le _, Nat.zero_le _, ps, _, _, hp1, hp2, ⟨_, rfl⟩, rfl, rfl⟩
def BA : IC := (zd_ [zz_ 2 (.mov (.k (.slice none 0 0))), zz_ 3 (.mov (.k (.string ⟨#[]⟩)))] (zd_ [zw_ 4 0, zq_ 5 62 4, zz_ 6 (.ext 0 (.t 5)), zz_ 7 (.ext 1 (.t 5)), zw_ 2 6, zw_ 3 7] .ret))
theorem Dw : ay Tryz.prog (Tryz.f21.body.getD .skip) = some BA := by kernel_rfl
set_option maxRecDepth 8000 in
set_option maxHeartbeats 16000000 in
theorem SS (l : List UInt8) (n : Bool) (hl : l.length ≤ 1048576) : iZ Tryz.prog 21 [.c false [.sl n (l.map lu8)]] [] [] (fun r os' bs' => ∃ (ps : List GPart) (i h : Int), ps.length ≤ 9 ∧ (∀ p ∈ ps, p.toD.wt ≤ 60000) ∧ (∃ z : ByteArray, r = .tup [(false, [.sl false (ps.map pF)]), (false, [.raw (.string z)])]) ∧ os' = [] ∧ bs' = [[.sl false (l.map lu8), .raw (.int .i64 i), .raw (.int .i64 h)]]) := by
  refine Ky (fn := Tryz.f21) (t := 2) (u := 3) (by kernel_rfl) (by kernel_rfl) (by kernel_rfl) Dw ?_
  unfold BA; refine zb_ ?_
  change dA _ _ _ _ (stS 8 _ _ _)
  refine sS tdX ?_
  repeat' (first | ((with_reducible refine au ?_); intro K hK) | ((with_reducible refine hK _ ?_); clear hK K) | (with_reducible refine aj ?_ ?_) | ((with_reducible refine aP ?_); first | ((refine Cj (SV l _ hl) ?_); rintro _ _ _ ⟨ps, i, h, hp1, hp2, ⟨z, rfl⟩, rfl, rfl⟩)) | ((with_reducible refine aC ?_); refine ss tdE ?_) | refine nv ?_ | (with_reducible (refine cS rfl ?_ ?_) <;> (intro hb hb'; try (exfalso; omega))) | exact aO | exact aF)
  exact ⟨_, _, rfl, rfl, Nat.zero_le _, Nat.zero_le _, ps, _, _, hp1, hp2, ⟨_, rfl⟩, rfl, rfl⟩
end Go.Proofs.YtfjmoicellpnhaaGreat

