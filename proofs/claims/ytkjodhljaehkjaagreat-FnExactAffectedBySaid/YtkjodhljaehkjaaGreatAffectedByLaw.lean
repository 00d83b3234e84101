/-
  The program's AffectedBy returns what the reference's returns, for all arguments. No condition.
-/
import Derived.Test.YtkjodhljaehkjaaGreatJA
import Derived.Test.YtkjodhljaehkjaaGreatJB
import Derived.Test.YtkjodhljaehkjaaGreatJI
namespace Go.Proofs.YtkjodhljaehkjaaGreat
open Go.RowKit
set_option linter.unusedSimpArgs false
set_option linter.unusedVariables false

set_option maxRecDepth 40000 in
set_option maxHeartbeats 8000000 in
theorem law_FnExactAffectedBy (l0 : List GPart) (fx0 : List Nat) (v0 : Value) (l1 : List Int) (fx1 : List Nat) (v1 : Value) (w : World) (hx0 : Sl w (l0.map GPart.toD) fx0 v0) (wx0 : D.wfs (l0.map GPart.toD)) (hx1 : Sl w (l1.map li) fx1 v1) (wx1 : D.wfs (l1.map li)) :
    Calls Tryz.prog 11 #[v0, v1] w (TruePost w) := by
  obtain ⟨A0, d0, rfl, hqa, hqb⟩ := hx0.formT
  clear hqa hqb
  obtain ⟨A1, d1, rfl, hqa, hqb⟩ := hx1.formT
  clear hqa hqb
  go_enter Tryz.func11, Tryz.ntmps11
  go_wp2_with fail
  · go_ret
    exact ⟨rfl, (Below.refl _ _)⟩
  refine (PartS_szSaid l0 _ _ _ _ (hx0) wx0 (by omega) (by omega)).mono ?_
  rintro e w1 ⟨r1, rfl, hr1, hqa, hqb, hb1⟩
  have L1 : Below w.heap.size w w1 := hb1
  have G1 : Below w.heap.size w w1 := L1
  clear L1 hb1
  go_wp2_with fail
  · go_ret
    exact ⟨rfl, G1⟩
  have hw0 : (l0.map GPart.toD).length + D.wts (l0.map GPart.toD) ≤ 1048576 := by have := hr1.le (by omega); omega
  have hn0 : l0.length ≤ 1048576 := by have := hw0; rw [List.length_map] at this; omega
  have hc0 : D.cnts (l0.map GPart.toD) ≤ 14680064 := by have := D.cnts_le _ (GPart.thins l0); omega
  have hn1 : l1.length ≤ 1048576 := by omega
  have hw1 : (l1.map li).length + D.wts (l1.map li) ≤ 1048576 := by rw [Int_szs_wts, List.length_map]; omega
  have hc1 : D.cnts (l1.map li) ≤ 14680064 := by rw [cnts_ints]; omega
  have hwm := hw0
  rw [List.length_map] at hwm
  have hcr0 : D.cnts (((setL l0.length (affTo l0 l1 l1.length)).map Int.ofNat).map li) ≤ 1048576 := by rw [cnts_ints, List.length_map]; have := setN_len l0.length fun k => (affTo l0 l1 l1.length).contains k; unfold setL; omega
  obtain ⟨r0, hr0⟩ : ∃ r : List Int, (setL l0.length (affTo l0 l1 l1.length)).map Int.ofNat = r := ⟨_, rfl⟩
  have hcr : D.cnts (r0.map li) ≤ 1048576 := hr0 ▸ hcr0
  clear hcr0
  clear hr1
  refine (PartS_toSaid l0 _ _ _ ((hx0.below G1)) hw0).mono ?_
  rintro e w2 ⟨f2, vv2, rfl, S2, F2, hb2⟩
  obtain ⟨A_t1, d_t1, rfl, hqa, hqb⟩ := S2.formT
  clear hqa hqb
  have L2 : Below w1.heap.size w1 w2 := hb2
  have F2b := F2.mono (base' := w1.heap.size) (Nat.le_refl _)
  have G2 : Below w.heap.size w w2 := G1.trans (L2.mono G1.size)
  have F2c := F2b.mono (base' := w.heap.size) (G1.size)
  clear G1 F2 F2b L2 hb2
  go_wp2_with fail
  refine (IntS_toSaid l1 _ _ _ ((hx1.below G2)) hw1).mono ?_
  rintro e w3 ⟨f3, vv3, rfl, S3, F3, hb3⟩
  obtain ⟨A_t2, d_t2, rfl, hqa, hqb⟩ := S3.formT
  clear hqa hqb
  have L3 : Below w2.heap.size w2 w3 := hb3
  have F3b := F3.mono (base' := w2.heap.size) (Nat.le_refl _)
  have D_t1_t2 : ∀ x ∈ f2, x ∉ f3 := fun x hx hy => Nat.lt_irrefl _ (Nat.lt_of_lt_of_le (R.lt S2 x hx) ((F3b.2 x hy).1))
  have G3 : Below w.heap.size w w3 := G2.trans (L3.mono G2.size)
  have F3c := F3b.mono (base' := w.heap.size) (G2.size)
  have S3_t1 := S2.below L3
  have F3_t1 := F2c.below (R.lt S2) L3
  clear G2 F3 F3b S2 F2c L3 hb3
  go_wp2_with fail
  refine (affectedBy_spec l0 l1 r0 hr0 _ _ _ _ _ (S3_t1) (S3) hwm hn1).mono ?_
  rintro e w4 ⟨f4_0, vv4_0, rfl, S4_0, F4_0, hb4⟩
  obtain ⟨A_w0, d_w0, rfl, hqa, hqb⟩ := S4_0.formT
  clear hqa hqb
  have L4 : Below w3.heap.size w3 w4 := hb4
  have F4_0b := F4_0.mono (base' := w3.heap.size) (Nat.le_refl _)
  have G4 : Below w.heap.size w w4 := G3.trans (L4.mono G3.size)
  have F4_0c := F4_0b.mono (base' := w.heap.size) (G3.size)
  clear G3 F4_0 F4_0b L4 hb4
  go_wp2_with fail
  refine (PartS_toSaid l0 _ _ _ ((hx0.below G4)) hw0).mono ?_
  rintro e w5 ⟨f5, vv5, rfl, S5, F5, hb5⟩
  obtain ⟨A_x0, d_x0, rfl, hqa, hqb⟩ := S5.formT
  clear hqa hqb
  have L5 : Below w4.heap.size w4 w5 := hb5
  have F5b := F5.mono (base' := w4.heap.size) (Nat.le_refl _)
  have D_w0_x0 : ∀ x ∈ f4_0, x ∉ f5 := fun x hx hy => Nat.lt_irrefl _ (Nat.lt_of_lt_of_le (R.lt S4_0 x hx) ((F5b.2 x hy).1))
  have G5 : Below w.heap.size w w5 := G4.trans (L5.mono G4.size)
  have F5c := F5b.mono (base' := w.heap.size) (G4.size)
  have S5_w0 := S4_0.below L5
  have F5_w0 := F4_0c.below (R.lt S4_0) L5
  clear G4 F5 F5b S4_0 F4_0c L5 hb5
  go_wp2_with fail
  refine (IntS_toSaid l1 _ _ _ ((hx1.below G5)) hw1).mono ?_
  rintro e w6 ⟨f6, vv6, rfl, S6, F6, hb6⟩
  obtain ⟨A_x1, d_x1, rfl, hqa, hqb⟩ := S6.formT
  clear hqa hqb
  have L6 : Below w5.heap.size w5 w6 := hb6
  have F6b := F6.mono (base' := w5.heap.size) (Nat.le_refl _)
  have D_w0_x1 : ∀ x ∈ f4_0, x ∉ f6 := fun x hx hy => Nat.lt_irrefl _ (Nat.lt_of_lt_of_le (R.lt S5_w0 x hx) ((F6b.2 x hy).1))
  have D_x0_x1 : ∀ x ∈ f5, x ∉ f6 := fun x hx hy => Nat.lt_irrefl _ (Nat.lt_of_lt_of_le (R.lt S5 x hx) ((F6b.2 x hy).1))
  have G6 : Below w.heap.size w w6 := G5.trans (L6.mono G5.size)
  have F6c := F6b.mono (base' := w.heap.size) (G5.size)
  have S6_w0 := S5_w0.below L6
  have F6_w0 := F5_w0.below (R.lt S5_w0) L6
  have S6_x0 := S5.below L6
  have F6_x0 := F5c.below (R.lt S5) L6
  clear G5 F6 F6b S5_w0 F5_w0 S5 F5c L6 hb6
  go_wp2_with fail
  refine (affectedBy_impl l0 l1 r0 hr0 _ _ _ _ _ (S6_x0) (S6) hwm hn1).mono ?_
  rintro e w7 ⟨f7_0, vv7_0, rfl, S7_0, F7_0, hb7⟩
  obtain ⟨A_g0, d_g0, rfl, hqa, hqb⟩ := S7_0.formT
  clear hqa hqb
  have L7 : Below w6.heap.size w6 w7 := hb7
  have F7_0b := F7_0.mono (base' := w6.heap.size) (Nat.le_refl _)
  have D_w0_g0 : ∀ x ∈ f4_0, x ∉ f7_0 := fun x hx hy => Nat.lt_irrefl _ (Nat.lt_of_lt_of_le (R.lt S6_w0 x hx) ((F7_0b.2 x hy).1))
  have D_x0_g0 : ∀ x ∈ f5, x ∉ f7_0 := fun x hx hy => Nat.lt_irrefl _ (Nat.lt_of_lt_of_le (R.lt S6_x0 x hx) ((F7_0b.2 x hy).1))
  have D_x1_g0 : ∀ x ∈ f6, x ∉ f7_0 := fun x hx hy => Nat.lt_irrefl _ (Nat.lt_of_lt_of_le (R.lt S6 x hx) ((F7_0b.2 x hy).1))
  have G7 : Below w.heap.size w w7 := G6.trans (L7.mono G6.size)
  have F7_0c := F7_0b.mono (base' := w.heap.size) (G6.size)
  have S7_w0 := S6_w0.below L7
  have F7_w0 := F6_w0.below (R.lt S6_w0) L7
  have S7_x0 := S6_x0.below L7
  have F7_x0 := F6_x0.below (R.lt S6_x0) L7
  have S7_x1 := S6.below L7
  have F7_x1 := F6c.below (R.lt S6) L7
  clear G6 F7_0 F7_0b S6_w0 F6_w0 S6_x0 F6_x0 S6 F6c L7 hb7
  go_wp2_with fail
  refine (IntS_eqSaid (r0) _ _ _ _ _ (S7_0) (S7_w0)).mono ?_
  rintro e w8 ⟨rfl, hb8⟩
  have L8 : Below w7.heap.size w7 w8 := hb8
  have G8 : Below w.heap.size w w8 := G7.trans (L8.mono G7.size)
  have S8_w0 := S7_w0.below L8
  have F8_w0 := F7_w0.below (R.lt S7_w0) L8
  have S8_x0 := S7_x0.below L8
  have F8_x0 := F7_x0.below (R.lt S7_x0) L8
  have S8_x1 := S7_x1.below L8
  have F8_x1 := F7_x1.below (R.lt S7_x1) L8
  have S8_g0 := S7_0.below L8
  have F8_g0 := F7_0c.below (R.lt S7_0) L8
  clear G7 S7_w0 F7_w0 S7_x0 F7_x0 S7_x1 F7_x1 S7_0 F7_0c L8 hb8
  go_wp2_with fail
  refine (PartS_toSaid l0 _ _ _ ((hx0.below G8)) hw0).mono ?_
  rintro e w9 ⟨f9, vv9, rfl, S9, F9, hb9⟩
  obtain ⟨A_t5, d_t5, rfl, hqa, hqb⟩ := S9.formT
  clear hqa hqb
  have L9 : Below w8.heap.size w8 w9 := hb9
  have F9b := F9.mono (base' := w8.heap.size) (Nat.le_refl _)
  have D_w0_t5 : ∀ x ∈ f4_0, x ∉ f9 := fun x hx hy => Nat.lt_irrefl _ (Nat.lt_of_lt_of_le (R.lt S8_w0 x hx) ((F9b.2 x hy).1))
  have D_x0_t5 : ∀ x ∈ f5, x ∉ f9 := fun x hx hy => Nat.lt_irrefl _ (Nat.lt_of_lt_of_le (R.lt S8_x0 x hx) ((F9b.2 x hy).1))
  have D_x1_t5 : ∀ x ∈ f6, x ∉ f9 := fun x hx hy => Nat.lt_irrefl _ (Nat.lt_of_lt_of_le (R.lt S8_x1 x hx) ((F9b.2 x hy).1))
  have D_g0_t5 : ∀ x ∈ f7_0, x ∉ f9 := fun x hx hy => Nat.lt_irrefl _ (Nat.lt_of_lt_of_le (R.lt S8_g0 x hx) ((F9b.2 x hy).1))
  have G9 : Below w.heap.size w w9 := G8.trans (L9.mono G8.size)
  have F9c := F9b.mono (base' := w.heap.size) (G8.size)
  have S9_w0 := S8_w0.below L9
  have F9_w0 := F8_w0.below (R.lt S8_w0) L9
  have S9_x0 := S8_x0.below L9
  have F9_x0 := F8_x0.below (R.lt S8_x0) L9
  have S9_x1 := S8_x1.below L9
  have F9_x1 := F8_x1.below (R.lt S8_x1) L9
  have S9_g0 := S8_g0.below L9
  have F9_g0 := F8_g0.below (R.lt S8_g0) L9
  clear G8 F9 F9b S8_w0 F8_w0 S8_x0 F8_x0 S8_x1 F8_x1 S8_g0 F8_g0 L9 hb9
  go_wp2_with fail
  refine (PartS_eqSaid (l0) _ _ _ _ _ (S9_x0) (S9)).mono ?_
  rintro e w10 ⟨rfl, hb10⟩
  have L10 : Below w9.heap.size w9 w10 := hb10
  have G10 : Below w.heap.size w w10 := G9.trans (L10.mono G9.size)
  have S10_w0 := S9_w0.below L10
  have F10_w0 := F9_w0.below (R.lt S9_w0) L10
  have S10_x0 := S9_x0.below L10
  have F10_x0 := F9_x0.below (R.lt S9_x0) L10
  have S10_x1 := S9_x1.below L10
  have F10_x1 := F9_x1.below (R.lt S9_x1) L10
  have S10_g0 := S9_g0.below L10
  have F10_g0 := F9_g0.below (R.lt S9_g0) L10
  clear G9 S9_w0 F9_w0 S9_x0 F9_x0 S9_x1 F9_x1 S9_g0 F9_g0 L10 hb10
  go_wp2_with fail
  refine (IntS_toSaid l1 _ _ _ ((hx1.below G10)) hw1).mono ?_
  rintro e w11 ⟨f11, vv11, rfl, S11, F11, hb11⟩
  obtain ⟨A_t6, d_t6, rfl, hqa, hqb⟩ := S11.formT
  clear hqa hqb
  have L11 : Below w10.heap.size w10 w11 := hb11
  have F11b := F11.mono (base' := w10.heap.size) (Nat.le_refl _)
  have D_w0_t6 : ∀ x ∈ f4_0, x ∉ f11 := fun x hx hy => Nat.lt_irrefl _ (Nat.lt_of_lt_of_le (R.lt S10_w0 x hx) ((F11b.2 x hy).1))
  have D_x0_t6 : ∀ x ∈ f5, x ∉ f11 := fun x hx hy => Nat.lt_irrefl _ (Nat.lt_of_lt_of_le (R.lt S10_x0 x hx) ((F11b.2 x hy).1))
  have D_x1_t6 : ∀ x ∈ f6, x ∉ f11 := fun x hx hy => Nat.lt_irrefl _ (Nat.lt_of_lt_of_le (R.lt S10_x1 x hx) ((F11b.2 x hy).1))
  have D_g0_t6 : ∀ x ∈ f7_0, x ∉ f11 := fun x hx hy => Nat.lt_irrefl _ (Nat.lt_of_lt_of_le (R.lt S10_g0 x hx) ((F11b.2 x hy).1))
  have G11 : Below w.heap.size w w11 := G10.trans (L11.mono G10.size)
  have F11c := F11b.mono (base' := w.heap.size) (G10.size)
  have S11_w0 := S10_w0.below L11
  have F11_w0 := F10_w0.below (R.lt S10_w0) L11
  have S11_x0 := S10_x0.below L11
  have F11_x0 := F10_x0.below (R.lt S10_x0) L11
  have S11_x1 := S10_x1.below L11
  have F11_x1 := F10_x1.below (R.lt S10_x1) L11
  have S11_g0 := S10_g0.below L11
  have F11_g0 := F10_g0.below (R.lt S10_g0) L11
  clear G10 F11 F11b S10_w0 F10_w0 S10_x0 F10_x0 S10_x1 F10_x1 S10_g0 F10_g0 L11 hb11
  go_wp2_with fail
  refine (IntS_eqSaid (l1) _ _ _ _ _ (S11_x1) (S11)).mono ?_
  rintro e w12 ⟨rfl, hb12⟩
  have L12 : Below w11.heap.size w11 w12 := hb12
  have G12 : Below w.heap.size w w12 := G11.trans (L12.mono G11.size)
  have S12_w0 := S11_w0.below L12
  have F12_w0 := F11_w0.below (R.lt S11_w0) L12
  have S12_x0 := S11_x0.below L12
  have F12_x0 := F11_x0.below (R.lt S11_x0) L12
  have S12_x1 := S11_x1.below L12
  have F12_x1 := F11_x1.below (R.lt S11_x1) L12
  have S12_g0 := S11_g0.below L12
  have F12_g0 := F11_g0.below (R.lt S11_g0) L12
  clear G11 S11_w0 F11_w0 S11_x0 F11_x0 S11_x1 F11_x1 S11_g0 F11_g0 L12 hb12
  go_wp2_with fail
  refine (PartS_mark (l0) _ _ _ _ (S12_x0) (F12_x0.mono (Nat.zero_le _)) (by omega) (by omega)).mono ?_
  rintro e w13 ⟨rfl, SM13, hb13⟩
  have G13 : Below w.heap.size w w13 := Touch.toBelow G12 hb13 (fun x hx => (F12_x0.2 x hx).1) G12.size
  have S13_w0 := S12_w0.touch hb13 D_w0_x0
  have F13_w0 := F12_w0.touch (R.lt S12_w0) hb13
  have S13_x1 := S12_x1.touch hb13 (fun x hx hy => D_x0_x1 x hy hx)
  have F13_x1 := F12_x1.touch (R.lt S12_x1) hb13
  have S13_g0 := S12_g0.touch hb13 (fun x hx hy => D_x0_g0 x hy hx)
  have F13_g0 := F12_g0.touch (R.lt S12_g0) hb13
  have F13_x0 := F12_x0.touch (R.lt S12_x0) hb13
  clear G12 S12_w0 F12_w0 S12_x1 F12_x1 S12_g0 F12_g0 S12_x0 F12_x0 hb13
  go_wp2_with fail
  refine (IntS_mark (l1) _ _ _ _ (S13_x1) (F13_x1.mono (Nat.zero_le _)) (by omega) (by omega)).mono ?_
  rintro e w14 ⟨rfl, SM14, hb14⟩
  have G14 : Below w.heap.size w w14 := Touch.toBelow G13 hb14 (fun x hx => (F13_x1.2 x hx).1) G13.size
  have S14_w0 := S13_w0.touch hb14 D_w0_x1
  have F14_w0 := F13_w0.touch (R.lt S13_w0) hb14
  have S14_g0 := S13_g0.touch hb14 (fun x hx hy => D_x1_g0 x hy hx)
  have F14_g0 := F13_g0.touch (R.lt S13_g0) hb14
  have F14_x1 := F13_x1.touch (R.lt S13_x1) hb14
  clear G13 S13_w0 F13_w0 S13_g0 F13_g0 S13_x1 F13_x1 hb14
  go_wp2_with fail
  refine (IntS_eqSaid (r0) _ _ _ _ _ (S14_g0) (S14_w0)).mono ?_
  rintro e w15 ⟨rfl, hb15⟩
  have L15 : Below w14.heap.size w14 w15 := hb15
  have G15 : Below w.heap.size w w15 := G14.trans (L15.mono G14.size)
  have S15_w0 := S14_w0.below L15
  have F15_w0 := F14_w0.below (R.lt S14_w0) L15
  have S15_g0 := S14_g0.below L15
  have F15_g0 := F14_g0.below (R.lt S14_g0) L15
  clear G14 S14_w0 F14_w0 S14_g0 F14_g0 L15 hb15
  go_wp2_with fail
  refine (IntS_mark (r0) _ _ _ _ (S15_g0) (F15_g0.mono (Nat.zero_le _)) (by omega) (by omega)).mono ?_
  rintro e w16 ⟨rfl, SM16, hb16⟩
  have G16 : Below w.heap.size w w16 := Touch.toBelow G15 hb16 (fun x hx => (F15_g0.2 x hx).1) G15.size
  have S16_w0 := S15_w0.touch hb16 D_w0_g0
  have F16_w0 := F15_w0.touch (R.lt S15_w0) hb16
  have F16_g0 := F15_g0.touch (R.lt S15_g0) hb16
  clear G15 S15_w0 F15_w0 S15_g0 F15_g0 hb16
  go_wp2_with fail
  refine (IntS_held (r0) _ _ _ _ (SM16) (by omega) (by omega)).mono ?_
  rintro e w17 ⟨rfl, hb17⟩
  have L17 : Below w16.heap.size w16 w17 := hb17
  have G17 : Below w.heap.size w w17 := G16.trans (L17.mono G16.size)
  have S17_w0 := S16_w0.below L17
  have F17_w0 := F16_w0.below (R.lt S16_w0) L17
  have S17_g0 := SM16.below L17
  have F17_g0 := F16_g0.below (R.lt SM16) L17
  clear G16 S16_w0 F16_w0 SM16 F16_g0 L17 hb17
  go_wp2_with fail
  refine (PartS_toSaid l0 _ _ _ ((hx0.below G17)) hw0).mono ?_
  rintro e w18 ⟨f18, vv18, rfl, S18, F18, hb18⟩
  obtain ⟨A_t7, d_t7, rfl, hqa, hqb⟩ := S18.formT
  clear hqa hqb
  have L18 : Below w17.heap.size w17 w18 := hb18
  have F18b := F18.mono (base' := w17.heap.size) (Nat.le_refl _)
  have D_w0_t7 : ∀ x ∈ f4_0, x ∉ f18 := fun x hx hy => Nat.lt_irrefl _ (Nat.lt_of_lt_of_le (R.lt S17_w0 x hx) ((F18b.2 x hy).1))
  have D_g0_t7 : ∀ x ∈ f7_0, x ∉ f18 := fun x hx hy => Nat.lt_irrefl _ (Nat.lt_of_lt_of_le (R.lt S17_g0 x hx) ((F18b.2 x hy).1))
  have G18 : Below w.heap.size w w18 := G17.trans (L18.mono G17.size)
  have F18c := F18b.mono (base' := w.heap.size) (G17.size)
  have S18_w0 := S17_w0.below L18
  have F18_w0 := F17_w0.below (R.lt S17_w0) L18
  have S18_g0 := S17_g0.below L18
  have F18_g0 := F17_g0.below (R.lt S17_g0) L18
  clear G17 F18 F18b S17_w0 F17_w0 S17_g0 F17_g0 L18 hb18
  go_wp2_with fail
  refine (IntS_toSaid l1 _ _ _ ((hx1.below G18)) hw1).mono ?_
  rintro e w19 ⟨f19, vv19, rfl, S19, F19, hb19⟩
  obtain ⟨A_t8, d_t8, rfl, hqa, hqb⟩ := S19.formT
  clear hqa hqb
  have L19 : Below w18.heap.size w18 w19 := hb19
  have F19b := F19.mono (base' := w18.heap.size) (Nat.le_refl _)
  have D_w0_t8 : ∀ x ∈ f4_0, x ∉ f19 := fun x hx hy => Nat.lt_irrefl _ (Nat.lt_of_lt_of_le (R.lt S18_w0 x hx) ((F19b.2 x hy).1))
  have D_g0_t8 : ∀ x ∈ f7_0, x ∉ f19 := fun x hx hy => Nat.lt_irrefl _ (Nat.lt_of_lt_of_le (R.lt S18_g0 x hx) ((F19b.2 x hy).1))
  have D_t7_t8 : ∀ x ∈ f18, x ∉ f19 := fun x hx hy => Nat.lt_irrefl _ (Nat.lt_of_lt_of_le (R.lt S18 x hx) ((F19b.2 x hy).1))
  have G19 : Below w.heap.size w w19 := G18.trans (L19.mono G18.size)
  have F19c := F19b.mono (base' := w.heap.size) (G18.size)
  have S19_w0 := S18_w0.below L19
  have F19_w0 := F18_w0.below (R.lt S18_w0) L19
  have S19_g0 := S18_g0.below L19
  have F19_g0 := F18_g0.below (R.lt S18_g0) L19
  have S19_t7 := S18.below L19
  have F19_t7 := F18c.below (R.lt S18) L19
  clear G18 F19 F19b S18_w0 F18_w0 S18_g0 F18_g0 S18 F18c L19 hb19
  go_wp2_with fail
  refine (affectedBy_impl l0 l1 r0 hr0 _ _ _ _ _ (S19_t7) (S19) hwm hn1).mono ?_
  rintro e w20 ⟨f20_0, vv20_0, rfl, S20_0, F20_0, hb20⟩
  obtain ⟨A_h0, d_h0, rfl, hqa, hqb⟩ := S20_0.formT
  clear hqa hqb
  have L20 : Below w19.heap.size w19 w20 := hb20
  have F20_0b := F20_0.mono (base' := w19.heap.size) (Nat.le_refl _)
  have D_w0_h0 : ∀ x ∈ f4_0, x ∉ f20_0 := fun x hx hy => Nat.lt_irrefl _ (Nat.lt_of_lt_of_le (R.lt S19_w0 x hx) ((F20_0b.2 x hy).1))
  have D_g0_h0 : ∀ x ∈ f7_0, x ∉ f20_0 := fun x hx hy => Nat.lt_irrefl _ (Nat.lt_of_lt_of_le (R.lt S19_g0 x hx) ((F20_0b.2 x hy).1))
  have G20 : Below w.heap.size w w20 := G19.trans (L20.mono G19.size)
  have F20_0c := F20_0b.mono (base' := w.heap.size) (G19.size)
  have S20_w0 := S19_w0.below L20
  have F20_w0 := F19_w0.below (R.lt S19_w0) L20
  have S20_g0 := S19_g0.below L20
  have F20_g0 := F19_g0.below (R.lt S19_g0) L20
  clear G19 F20_0 F20_0b S19_w0 F19_w0 S19_g0 F19_g0 L20 hb20
  go_wp2_with fail
  refine (IntS_eqSaid (r0) _ _ _ _ _ (S20_0) (S20_w0)).mono ?_
  rintro e w21 ⟨rfl, hb21⟩
  have L21 : Below w20.heap.size w20 w21 := hb21
  have G21 : Below w.heap.size w w21 := G20.trans (L21.mono G20.size)
  have S21_w0 := S20_w0.below L21
  have F21_w0 := F20_w0.below (R.lt S20_w0) L21
  have S21_g0 := S20_g0.below L21
  have F21_g0 := F20_g0.below (R.lt S20_g0) L21
  have S21_h0 := S20_0.below L21
  have F21_h0 := F20_0c.below (R.lt S20_0) L21
  clear G20 S20_w0 F20_w0 S20_g0 F20_g0 S20_0 F20_0c L21 hb21
  go_wp2_with fail
  refine (IntS_held (r0) _ _ _ _ (S21_g0) (by omega) (by omega)).mono ?_
  rintro e w22 ⟨rfl, hb22⟩
  have L22 : Below w21.heap.size w21 w22 := hb22
  have G22 : Below w.heap.size w w22 := G21.trans (L22.mono G21.size)
  have S22_g0 := S21_g0.below L22
  have F22_g0 := F21_g0.below (R.lt S21_g0) L22
  clear G21 S21_g0 F21_g0 L22 hb22
  go_wp2_with fail
  go_ret
  exact ⟨rfl, G22⟩

open Go.ChangeShapes Go.WideShapes Go.ChangeAt
set_option maxRecDepth 100000 in
theorem lifted_FnExactAffectedBy (os : Os) (started : os.Started) (H : Type) (enc : TypeId × Value → H) :
    ReturnsInHanded {} Tryz.checked os 11 .any (Rows.fnExactAffectedBySpec.pre6 enc Tryz.prog Tryz.f11 Rows.fnExactAffectedByRow.domain false) (Rows.fnExactAffectedBySpec.post enc Tryz.prog Tryz.f11 false true false false) := by
  refine returnsInHanded_of_change (C := Tryz.checked) own_ started (by kernel_rfl) Tryz.func11
    (ChangeSpec.witness6 (enc := enc) (C := Tryz.checked) false ⟨#[], #[.slice none 0 0, .slice none 0 0], []⟩ 8 (by kernel_rfl) (by kernel_rfl) (by kernel_rfl) (by kernel_rfl)) ?_
  intro W base args ds gs before hval0 hW hcnd _
  have hval : ∀ (j : Nat) t v, Tryz.f11.params[j]? = some t → args[j]? = some v → Value.okWide Tryz.prog W .any base t v := hval0
  have hW' := hW
  obtain ⟨p, q, hA0, hV, rfl, hfz, hnd⟩ := hW
  have hA : DataW.TrodAll enc Tryz.prog W 0 (fun _ => true) true Tryz.f11.params.toList args.toList ds p := hA0
  rw [Tryz.params11] at hA hval
  obtain ⟨v0, vs0, d0, ds0, p0, q0, ha0, rfl, rfl, h0, r0⟩ := trodAll_cons hA
  obtain ⟨v1, vs1, d1, ds1, p1, q1, ha1, rfl, rfl, h1, r1⟩ := trodAll_cons r0
  obtain ⟨rfl, rfl, rfl⟩ := trodAll_nil r1
  subst ha1
  obtain rfl : args = #[v0, v1] := by cases args; simp_all
  obtain ⟨rfl, rfl⟩ := trodVars_none hV
  obtain ⟨x0, fx0, hx0, wx0⟩ := arg_slice Tryz.underlying22 (hval 0 22 v0 rfl rfl) (fun n => rd_SGPart n) h0
  obtain ⟨x1, fx1, hx1, wx1⟩ := arg_slice Tryz.underlying29 (hval 1 29 v1 rfl rfl) (fun n => rd_Sint n) h1
  clear hA0 hval0
  have hlt : ∀ z ∈ p0 ++ (p1 ++ []), z.block < W.heap.size := fun z hz => hW'.lt z (by simpa using hz)
  refine (law_FnExactAffectedBy x0 fx0 _ x1 fx1 _ W hx0 wx0 hx1 wx1).mono fun e W' ⟨he, hb⟩ => ?_
  subst he
  exact ⟨_, rfl, post_of_below (pa := p0 ++ (p1 ++ [])) (pv := []) hW' (fun _ _ _ => trodAll_mk1 (shut_bool Tryz.underlying4 _))
    (fun sp hsp => ⟨_, _, WideElems.Trod_stays laidOut_ (by kernel_rfl) (of_decide_eq_true (by kernel_rfl)) h0 (fun z hz => hb.same (hlt z (List.mem_append_left _ hz))) (fun z hz => hsp z (by simp [hz])), ⟨_, _, WideElems.Trod_stays laidOut_ (by kernel_rfl) (of_decide_eq_true (by kernel_rfl)) h1 (fun z hz => hb.same (hlt z (List.mem_append_right _ (List.mem_append_left _ hz)))) (fun z hz => hsp z (by simp [hz])), rfl, rfl⟩, rfl⟩) (fun _ _ => rfl) (by simp) hb (ok_one (by kernel_rfl) rfl (okWide_bool_mk Tryz.underlying4 _))⟩

theorem proved_FnExactAffectedBy : Rows.FnExactAffectedBySaid :=
  OpenClaim.holds_of_wide 11 Tryz.f11 rfl rfl rfl rfl rfl rfl rfl ⟨rfl, rfl, rfl, rfl, rfl⟩ rfl rfl rfl rfl rfl (by kernel_rfl) Tryz.func11 (by kernel_rfl)
    (of_decide_eq_true (by kernel_rfl)) (by unfold Func.isWrapper; first | (rw [if_pos (by decide +kernel)]; kernel_rfl) | (rw [if_neg (by decide +kernel)]; exact ⟨rfl, rfl⟩))
    (fun os started H enc _ => lifted_FnExactAffectedBy os started H enc)
end Go.Proofs.YtkjodhljaehkjaaGreat
