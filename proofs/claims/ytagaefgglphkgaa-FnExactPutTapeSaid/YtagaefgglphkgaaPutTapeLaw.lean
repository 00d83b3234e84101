/-
  The program's PutTape returns what the reference's returns, for all arguments. No condition.
-/
import Derived.Test.YtagaefgglphkgaaJA
import Derived.Test.YtagaefgglphkgaaJF
import Derived.Test.YtagaefgglphkgaaJG
import Derived.Test.YtagaefgglphkgaaJO
set_option maxHeartbeats 100000000
set_option maxRecDepth 100000
set_option linter.unusedSimpArgs false
set_option linter.unusedVariables false
namespace Go.Proofs.Ytagaefgglphkgaa
open Go.RowKit
open Nat renaming lt_of_lt_of_le→a_,lt_irrefl→b_,le_refl→d_,zero_le→g_
open List renaming mem_append_right→c_,mem_append_left→f_,length_map→h_
open WideElems renaming Trod_stays→e_
theorem tJ(l0:List GTape)(fx0:List Nat)(v0:Value)(n1:Int)(n2:Int)(l3:List GRead)(fx3:List Nat)(v3:Value)(w:World)(hx0:Sl w (l0.map GTape.toD) fx0 v0)(wx0:D.wfs (l0.map GTape.toD))(hx1:(Lit.int .i64 n1).wf=true)(hx2:(Lit.int .i64 n2).wf=true)(hx3:Sl w (l3.map GRead.toD) fx3 v3)(wx3:D.wfs (l3.map GRead.toD)):
 Calls Try.prog 5 #[v0,.int .i64 n1,.int .i64 n2,v3] w (dZ w):=by
 obtain⟨A0,d0,rfl,hqa,hqb⟩:=hx0.ak;clear hqa hqb;obtain⟨A3,d3,rfl,hqa,hqb⟩:=hx3.ak;clear hqa hqb
 go_enter Try.func5,Try.ntmps5
 go_wp2_with fail
 refine(vW l0 _ _ _ _ (hx0) wx0 (by omega) (by omega)).mono ?_;rintro e w1 ⟨r1,rfl,hr1,hqa,hqb,hb1⟩;have L1:Below w.heap.size w w1:=hb1;have G1:Below w.heap.size w w1:=L1;clear L1 hb1
 go_wp2_with fail
 ·go_ret
  exact⟨rfl,G1⟩
 refine(wo l3 _ _ _ _ ((hx3.below G1)) wx3 (by omega) (by omega)).mono ?_;rintro e w2 ⟨r2,rfl,hr2,hqa,hqb,hb2⟩;have L2:Below w1.heap.size w1 w2:=hb2;have G2:Below w.heap.size w w2:=G1.trans (L2.mono G1.size);clear G1 L2 hb2
 go_wp2_with fail
 ·go_ret
  exact⟨rfl,G2⟩
 have hw0:(l0.map GTape.toD).length+D.wts (l0.map GTape.toD)≤1048576:=by have:=hr1.le (by omega);have:=hr2.le (by omega);omega
 have hw3:(l3.map GRead.toD).length+D.wts (l3.map GRead.toD)≤1048576:=by have:=hr1.le (by omega);have:=hr2.le (by omega);omega
 have hn0:l0.length≤1048576:=by have:=hw0;rw[h_]at this;omega
 have hc0:D.cnts (l0.map GTape.toD)≤14680064:=by have:=D.rW _ (GTape.fQ l0);omega
 have hn3:l3.length≤1048576:=by have:=hw3;rw[h_]at this;omega
 have hc3:D.cnts (l3.map GRead.toD)≤14680064:=by have:=D.rW _ (GRead.fQ l3);omega
 have hwm:D.wts (l0.map GTape.toD)≤1048576:=by omega
 have hvm:D.wts (l3.map GRead.toD)≤1048576:=by omega
 have hcr:D.cnts ((lg l0 n1 n2 l3).map GTape.toD)≤4611686018427387:=F5 l0 n1 n2 l3 hn0 hwm hn3 hvm;clear hr1 hr2;refine(iQ l0 _ _ _ ((hx0.below G2)) hw0).mono ?_;rintro e w3 ⟨f3,vv3,rfl,S3,F3,hb3⟩;obtain⟨A_t1,d_t1,rfl,hqa,hqb⟩:=S3.ak;clear hqa hqb;have L3:Below w2.heap.size w2 w3:=hb3;have F3b:=F3.mono (base':=w2.heap.size) (d_ _);have G3:Below w.heap.size w w3:=G2.trans (L3.mono G2.size);have F3c:=F3b.mono (base':=w.heap.size) (G2.size);clear G2 F3 F3b L3 hb3
 go_wp2_with fail
 refine(kZ l3 _ _ _ ((hx3.below G3)) hw3).mono ?_;rintro e w4 ⟨f4,vv4,rfl,S4,F4,hb4⟩;obtain⟨A_t2,d_t2,rfl,hqa,hqb⟩:=S4.ak;clear hqa hqb;have L4:Below w3.heap.size w3 w4:=hb4;have F4b:=F4.mono (base':=w3.heap.size) (d_ _);have D_t1_t2:∀x∈f3,x∉f4:=fun x hx hy=>b_ _ (a_ (R.lt S3 x hx) ((F4b.2 x hy).1))
 have G4:Below w.heap.size w w4:=G3.trans (L4.mono G3.size);have F4c:=F4b.mono (base':=w.heap.size) (G3.size);have S4_t1:=S3.below L4;have F4_t1:=F3c.below (R.lt S3) L4;clear G3 F4 F4b S3 F3c L4 hb4
 go_wp2_with fail
 refine(wS l0 n1 n2 l3 _ _ _ _ _ (S4_t1) (S4) hn0 hwm hn3 hvm).mono ?_;rintro e w5 ⟨f5_0,vv5_0,rfl,S5_0,F5_0,hb5⟩;obtain⟨A_w0,d_w0,rfl,hqa,hqb⟩:=S5_0.ak;clear hqa hqb;have L5:Below w4.heap.size w4 w5:=hb5;have F5_0b:=F5_0.mono (base':=w4.heap.size) (d_ _);have G5:Below w.heap.size w w5:=G4.trans (L5.mono G4.size);have F5_0c:=F5_0b.mono (base':=w.heap.size) (G4.size);clear G4 F5_0 F5_0b L5 hb5
 go_wp2_with fail
 refine(iQ l0 _ _ _ ((hx0.below G5)) hw0).mono ?_;rintro e w6 ⟨f6,vv6,rfl,S6,F6,hb6⟩;obtain⟨A_x0,d_x0,rfl,hqa,hqb⟩:=S6.ak;clear hqa hqb;have L6:Below w5.heap.size w5 w6:=hb6;have F6b:=F6.mono (base':=w5.heap.size) (d_ _);have D_w0_x0:∀x∈f5_0,x∉f6:=fun x hx hy=>b_ _ (a_ (R.lt S5_0 x hx) ((F6b.2 x hy).1))
 have G6:Below w.heap.size w w6:=G5.trans (L6.mono G5.size);have F6c:=F6b.mono (base':=w.heap.size) (G5.size);have S6_w0:=S5_0.below L6;have F6_w0:=F5_0c.below (R.lt S5_0) L6;clear G5 F6 F6b S5_0 F5_0c L6 hb6
 go_wp2_with fail
 refine(kZ l3 _ _ _ ((hx3.below G6)) hw3).mono ?_;rintro e w7 ⟨f7,vv7,rfl,S7,F7,hb7⟩;obtain⟨A_x3,d_x3,rfl,hqa,hqb⟩:=S7.ak;clear hqa hqb;have L7:Below w6.heap.size w6 w7:=hb7;have F7b:=F7.mono (base':=w6.heap.size) (d_ _);have D_w0_x3:∀x∈f5_0,x∉f7:=fun x hx hy=>b_ _ (a_ (R.lt S6_w0 x hx) ((F7b.2 x hy).1))
 have D_x0_x3:∀x∈f6,x∉f7:=fun x hx hy=>b_ _ (a_ (R.lt S6 x hx) ((F7b.2 x hy).1))
 have G7:Below w.heap.size w w7:=G6.trans (L7.mono G6.size);have F7c:=F7b.mono (base':=w.heap.size) (G6.size);have S7_w0:=S6_w0.below L7;have F7_w0:=F6_w0.below (R.lt S6_w0) L7;have S7_x0:=S6.below L7;have F7_x0:=F6c.below (R.lt S6) L7;clear G6 F7 F7b S6_w0 F6_w0 S6 F6c L7 hb7
 go_wp2_with fail
 refine(oQ l0 n1 n2 l3 _ _ _ _ _ (S7_x0) (S7) hn0 hwm hn3 hvm).mono ?_;rintro e w8 ⟨f8_0,vv8_0,rfl,S8_0,F8_0,hb8⟩;obtain⟨A_g0,d_g0,rfl,hqa,hqb⟩:=S8_0.ak;clear hqa hqb;have L8:Below w7.heap.size w7 w8:=hb8;have F8_0b:=F8_0.mono (base':=w7.heap.size) (d_ _);have D_w0_g0:∀x∈f5_0,x∉f8_0:=fun x hx hy=>b_ _ (a_ (R.lt S7_w0 x hx) ((F8_0b.2 x hy).1))
 have D_x0_g0:∀x∈f6,x∉f8_0:=fun x hx hy=>b_ _ (a_ (R.lt S7_x0 x hx) ((F8_0b.2 x hy).1))
 have D_x3_g0:∀x∈f7,x∉f8_0:=fun x hx hy=>b_ _ (a_ (R.lt S7 x hx) ((F8_0b.2 x hy).1))
 have G8:Below w.heap.size w w8:=G7.trans (L8.mono G7.size);have F8_0c:=F8_0b.mono (base':=w.heap.size) (G7.size);have S8_w0:=S7_w0.below L8;have F8_w0:=F7_w0.below (R.lt S7_w0) L8;have S8_x0:=S7_x0.below L8;have F8_x0:=F7_x0.below (R.lt S7_x0) L8;have S8_x3:=S7.below L8;have F8_x3:=F7c.below (R.lt S7) L8;clear G7 F8_0 F8_0b S7_w0 F7_w0 S7_x0 F7_x0 S7 F7c L8 hb8
 go_wp2_with fail
 refine(iR (lg l0 n1 n2 l3) _ _ _ _ _ (S8_0) (S8_w0)).mono ?_;rintro e w9 ⟨rfl,hb9⟩;have L9:Below w8.heap.size w8 w9:=hb9;have G9:Below w.heap.size w w9:=G8.trans (L9.mono G8.size);have S9_w0:=S8_w0.below L9;have F9_w0:=F8_w0.below (R.lt S8_w0) L9;have S9_x0:=S8_x0.below L9;have F9_x0:=F8_x0.below (R.lt S8_x0) L9;have S9_x3:=S8_x3.below L9;have F9_x3:=F8_x3.below (R.lt S8_x3) L9;have S9_g0:=S8_0.below L9;have F9_g0:=F8_0c.below (R.lt S8_0) L9;clear G8 S8_w0 F8_w0 S8_x0 F8_x0 S8_x3 F8_x3 S8_0 F8_0c L9 hb9
 go_wp2_with fail
 refine(iQ l0 _ _ _ ((hx0.below G9)) hw0).mono ?_;rintro e w10 ⟨f10,vv10,rfl,S10,F10,hb10⟩;obtain⟨A_t5,d_t5,rfl,hqa,hqb⟩:=S10.ak;clear hqa hqb;have L10:Below w9.heap.size w9 w10:=hb10;have F10b:=F10.mono (base':=w9.heap.size) (d_ _);have D_w0_t5:∀x∈f5_0,x∉f10:=fun x hx hy=>b_ _ (a_ (R.lt S9_w0 x hx) ((F10b.2 x hy).1))
 have D_x0_t5:∀x∈f6,x∉f10:=fun x hx hy=>b_ _ (a_ (R.lt S9_x0 x hx) ((F10b.2 x hy).1))
 have D_x3_t5:∀x∈f7,x∉f10:=fun x hx hy=>b_ _ (a_ (R.lt S9_x3 x hx) ((F10b.2 x hy).1))
 have D_g0_t5:∀x∈f8_0,x∉f10:=fun x hx hy=>b_ _ (a_ (R.lt S9_g0 x hx) ((F10b.2 x hy).1))
 have G10:Below w.heap.size w w10:=G9.trans (L10.mono G9.size);have F10c:=F10b.mono (base':=w.heap.size) (G9.size);have S10_w0:=S9_w0.below L10;have F10_w0:=F9_w0.below (R.lt S9_w0) L10;have S10_x0:=S9_x0.below L10;have F10_x0:=F9_x0.below (R.lt S9_x0) L10;have S10_x3:=S9_x3.below L10;have F10_x3:=F9_x3.below (R.lt S9_x3) L10;have S10_g0:=S9_g0.below L10;have F10_g0:=F9_g0.below (R.lt S9_g0) L10;clear G9 F10 F10b S9_w0 F9_w0 S9_x0 F9_x0 S9_x3 F9_x3 S9_g0 F9_g0 L10 hb10
 go_wp2_with fail
 refine(iR (l0) _ _ _ _ _ (S10_x0) (S10)).mono ?_;rintro e w11 ⟨rfl,hb11⟩;have L11:Below w10.heap.size w10 w11:=hb11;have G11:Below w.heap.size w w11:=G10.trans (L11.mono G10.size);have S11_w0:=S10_w0.below L11;have F11_w0:=F10_w0.below (R.lt S10_w0) L11;have S11_x0:=S10_x0.below L11;have F11_x0:=F10_x0.below (R.lt S10_x0) L11;have S11_x3:=S10_x3.below L11;have F11_x3:=F10_x3.below (R.lt S10_x3) L11;have S11_g0:=S10_g0.below L11;have F11_g0:=F10_g0.below (R.lt S10_g0) L11;clear G10 S10_w0 F10_w0 S10_x0 F10_x0 S10_x3 F10_x3 S10_g0 F10_g0 L11 hb11
 go_wp2_with fail
 refine(kZ l3 _ _ _ ((hx3.below G11)) hw3).mono ?_;rintro e w12 ⟨f12,vv12,rfl,S12,F12,hb12⟩;obtain⟨A_t6,d_t6,rfl,hqa,hqb⟩:=S12.ak;clear hqa hqb;have L12:Below w11.heap.size w11 w12:=hb12;have F12b:=F12.mono (base':=w11.heap.size) (d_ _);have D_w0_t6:∀x∈f5_0,x∉f12:=fun x hx hy=>b_ _ (a_ (R.lt S11_w0 x hx) ((F12b.2 x hy).1))
 have D_x0_t6:∀x∈f6,x∉f12:=fun x hx hy=>b_ _ (a_ (R.lt S11_x0 x hx) ((F12b.2 x hy).1))
 have D_x3_t6:∀x∈f7,x∉f12:=fun x hx hy=>b_ _ (a_ (R.lt S11_x3 x hx) ((F12b.2 x hy).1))
 have D_g0_t6:∀x∈f8_0,x∉f12:=fun x hx hy=>b_ _ (a_ (R.lt S11_g0 x hx) ((F12b.2 x hy).1))
 have G12:Below w.heap.size w w12:=G11.trans (L12.mono G11.size);have F12c:=F12b.mono (base':=w.heap.size) (G11.size);have S12_w0:=S11_w0.below L12;have F12_w0:=F11_w0.below (R.lt S11_w0) L12;have S12_x0:=S11_x0.below L12;have F12_x0:=F11_x0.below (R.lt S11_x0) L12;have S12_x3:=S11_x3.below L12;have F12_x3:=F11_x3.below (R.lt S11_x3) L12;have S12_g0:=S11_g0.below L12;have F12_g0:=F11_g0.below (R.lt S11_g0) L12;clear G11 F12 F12b S11_w0 F11_w0 S11_x0 F11_x0 S11_x3 F11_x3 S11_g0 F11_g0 L12 hb12
 go_wp2_with fail
 refine(wu (l3) _ _ _ _ _ (S12_x3) (S12)).mono ?_;rintro e w13 ⟨rfl,hb13⟩;have L13:Below w12.heap.size w12 w13:=hb13;have G13:Below w.heap.size w w13:=G12.trans (L13.mono G12.size);have S13_w0:=S12_w0.below L13;have F13_w0:=F12_w0.below (R.lt S12_w0) L13;have S13_x0:=S12_x0.below L13;have F13_x0:=F12_x0.below (R.lt S12_x0) L13;have S13_x3:=S12_x3.below L13;have F13_x3:=F12_x3.below (R.lt S12_x3) L13;have S13_g0:=S12_g0.below L13;have F13_g0:=F12_g0.below (R.lt S12_g0) L13;clear G12 S12_w0 F12_w0 S12_x0 F12_x0 S12_x3 F12_x3 S12_g0 F12_g0 L13 hb13
 go_wp2_with fail
 refine(qj (l0) _ _ _ _ (S13_x0) (F13_x0.mono (g_ _)) (by omega) (by omega)).mono ?_;rintro e w14 ⟨rfl,SM14,hb14⟩;have G14:Below w.heap.size w w14:=Touch.toBelow G13 hb14 (fun x hx=>(F13_x0.2 x hx).1) G13.size;have S14_w0:=S13_w0.touch hb14 D_w0_x0;have F14_w0:=F13_w0.touch (R.lt S13_w0) hb14;have S14_x3:=S13_x3.touch hb14 (fun x hx hy=>D_x0_x3 x hy hx);have F14_x3:=F13_x3.touch (R.lt S13_x3) hb14;have S14_g0:=S13_g0.touch hb14 (fun x hx hy=>D_x0_g0 x hy hx);have F14_g0:=F13_g0.touch (R.lt S13_g0) hb14;have F14_x0:=F13_x0.touch (R.lt S13_x0) hb14;clear G13 S13_w0 F13_w0 S13_x3 F13_x3 S13_g0 F13_g0 S13_x0 F13_x0 hb14
 go_wp2_with fail
 refine(BA (l3) _ _ _ _ (S14_x3) (F14_x3.mono (g_ _)) (by omega) (by omega)).mono ?_;rintro e w15 ⟨rfl,SM15,hb15⟩;have G15:Below w.heap.size w w15:=Touch.toBelow G14 hb15 (fun x hx=>(F14_x3.2 x hx).1) G14.size;have S15_w0:=S14_w0.touch hb15 D_w0_x3;have F15_w0:=F14_w0.touch (R.lt S14_w0) hb15;have S15_g0:=S14_g0.touch hb15 (fun x hx hy=>D_x3_g0 x hy hx);have F15_g0:=F14_g0.touch (R.lt S14_g0) hb15;have F15_x3:=F14_x3.touch (R.lt S14_x3) hb15;clear G14 S14_w0 F14_w0 S14_g0 F14_g0 S14_x3 F14_x3 hb15
 go_wp2_with fail
 refine(iR (lg l0 n1 n2 l3) _ _ _ _ _ (S15_g0) (S15_w0)).mono ?_;rintro e w16 ⟨rfl,hb16⟩;have L16:Below w15.heap.size w15 w16:=hb16;have G16:Below w.heap.size w w16:=G15.trans (L16.mono G15.size);have S16_w0:=S15_w0.below L16;have F16_w0:=F15_w0.below (R.lt S15_w0) L16;have S16_g0:=S15_g0.below L16;have F16_g0:=F15_g0.below (R.lt S15_g0) L16;clear G15 S15_w0 F15_w0 S15_g0 F15_g0 L16 hb16
 go_wp2_with fail
 refine(qj (lg l0 n1 n2 l3) _ _ _ _ (S16_g0) (F16_g0.mono (g_ _)) (by omega) (by omega)).mono ?_;rintro e w17 ⟨rfl,SM17,hb17⟩;have G17:Below w.heap.size w w17:=Touch.toBelow G16 hb17 (fun x hx=>(F16_g0.2 x hx).1) G16.size;have S17_w0:=S16_w0.touch hb17 D_w0_g0;have F17_w0:=F16_w0.touch (R.lt S16_w0) hb17;have F17_g0:=F16_g0.touch (R.lt S16_g0) hb17;clear G16 S16_w0 F16_w0 S16_g0 F16_g0 hb17
 go_wp2_with fail
 refine(ql (lg l0 n1 n2 l3) _ _ _ _ (SM17) (by omega) (by omega)).mono ?_;rintro e w18 ⟨rfl,hb18⟩;have L18:Below w17.heap.size w17 w18:=hb18;have G18:Below w.heap.size w w18:=G17.trans (L18.mono G17.size);have S18_w0:=S17_w0.below L18;have F18_w0:=F17_w0.below (R.lt S17_w0) L18;have S18_g0:=SM17.below L18;have F18_g0:=F17_g0.below (R.lt SM17) L18;clear G17 S17_w0 F17_w0 SM17 F17_g0 L18 hb18
 go_wp2_with fail
 refine(iQ l0 _ _ _ ((hx0.below G18)) hw0).mono ?_;rintro e w19 ⟨f19,vv19,rfl,S19,F19,hb19⟩;obtain⟨A_t7,d_t7,rfl,hqa,hqb⟩:=S19.ak;clear hqa hqb;have L19:Below w18.heap.size w18 w19:=hb19;have F19b:=F19.mono (base':=w18.heap.size) (d_ _);have D_w0_t7:∀x∈f5_0,x∉f19:=fun x hx hy=>b_ _ (a_ (R.lt S18_w0 x hx) ((F19b.2 x hy).1))
 have D_g0_t7:∀x∈f8_0,x∉f19:=fun x hx hy=>b_ _ (a_ (R.lt S18_g0 x hx) ((F19b.2 x hy).1))
 have G19:Below w.heap.size w w19:=G18.trans (L19.mono G18.size);have F19c:=F19b.mono (base':=w.heap.size) (G18.size);have S19_w0:=S18_w0.below L19;have F19_w0:=F18_w0.below (R.lt S18_w0) L19;have S19_g0:=S18_g0.below L19;have F19_g0:=F18_g0.below (R.lt S18_g0) L19;clear G18 F19 F19b S18_w0 F18_w0 S18_g0 F18_g0 L19 hb19
 go_wp2_with fail
 refine(kZ l3 _ _ _ ((hx3.below G19)) hw3).mono ?_;rintro e w20 ⟨f20,vv20,rfl,S20,F20,hb20⟩;obtain⟨A_t8,d_t8,rfl,hqa,hqb⟩:=S20.ak;clear hqa hqb;have L20:Below w19.heap.size w19 w20:=hb20;have F20b:=F20.mono (base':=w19.heap.size) (d_ _);have D_w0_t8:∀x∈f5_0,x∉f20:=fun x hx hy=>b_ _ (a_ (R.lt S19_w0 x hx) ((F20b.2 x hy).1))
 have D_g0_t8:∀x∈f8_0,x∉f20:=fun x hx hy=>b_ _ (a_ (R.lt S19_g0 x hx) ((F20b.2 x hy).1))
 have D_t7_t8:∀x∈f19,x∉f20:=fun x hx hy=>b_ _ (a_ (R.lt S19 x hx) ((F20b.2 x hy).1))
 have G20:Below w.heap.size w w20:=G19.trans (L20.mono G19.size);have F20c:=F20b.mono (base':=w.heap.size) (G19.size);have S20_w0:=S19_w0.below L20;have F20_w0:=F19_w0.below (R.lt S19_w0) L20;have S20_g0:=S19_g0.below L20;have F20_g0:=F19_g0.below (R.lt S19_g0) L20;have S20_t7:=S19.below L20;have F20_t7:=F19c.below (R.lt S19) L20;clear G19 F20 F20b S19_w0 F19_w0 S19_g0 F19_g0 S19 F19c L20 hb20
 go_wp2_with fail
 refine(oQ l0 n1 n2 l3 _ _ _ _ _ (S20_t7) (S20) hn0 hwm hn3 hvm).mono ?_;rintro e w21 ⟨f21_0,vv21_0,rfl,S21_0,F21_0,hb21⟩;obtain⟨A_h0,d_h0,rfl,hqa,hqb⟩:=S21_0.ak;clear hqa hqb;have L21:Below w20.heap.size w20 w21:=hb21;have F21_0b:=F21_0.mono (base':=w20.heap.size) (d_ _);have D_w0_h0:∀x∈f5_0,x∉f21_0:=fun x hx hy=>b_ _ (a_ (R.lt S20_w0 x hx) ((F21_0b.2 x hy).1))
 have D_g0_h0:∀x∈f8_0,x∉f21_0:=fun x hx hy=>b_ _ (a_ (R.lt S20_g0 x hx) ((F21_0b.2 x hy).1))
 have G21:Below w.heap.size w w21:=G20.trans (L21.mono G20.size);have F21_0c:=F21_0b.mono (base':=w.heap.size) (G20.size);have S21_w0:=S20_w0.below L21;have F21_w0:=F20_w0.below (R.lt S20_w0) L21;have S21_g0:=S20_g0.below L21;have F21_g0:=F20_g0.below (R.lt S20_g0) L21;clear G20 F21_0 F21_0b S20_w0 F20_w0 S20_g0 F20_g0 L21 hb21
 go_wp2_with fail
 refine(iR (lg l0 n1 n2 l3) _ _ _ _ _ (S21_0) (S21_w0)).mono ?_;rintro e w22 ⟨rfl,hb22⟩;have L22:Below w21.heap.size w21 w22:=hb22;have G22:Below w.heap.size w w22:=G21.trans (L22.mono G21.size);have S22_w0:=S21_w0.below L22;have F22_w0:=F21_w0.below (R.lt S21_w0) L22;have S22_g0:=S21_g0.below L22;have F22_g0:=F21_g0.below (R.lt S21_g0) L22;have S22_h0:=S21_0.below L22;have F22_h0:=F21_0c.below (R.lt S21_0) L22;clear G21 S21_w0 F21_w0 S21_g0 F21_g0 S21_0 F21_0c L22 hb22
 go_wp2_with fail
 refine(ql (lg l0 n1 n2 l3) _ _ _ _ (S22_g0) (by omega) (by omega)).mono ?_;rintro e w23 ⟨rfl,hb23⟩;have L23:Below w22.heap.size w22 w23:=hb23;have G23:Below w.heap.size w w23:=G22.trans (L23.mono G22.size);have S23_g0:=S22_g0.below L23;have F23_g0:=F22_g0.below (R.lt S22_g0) L23;clear G22 S22_g0 F22_g0 L23 hb23
 go_wp2_with fail
 go_ret
 exact⟨rfl,G23⟩
open Go.ChangeShapes Go.WideShapes Go.ChangeAt
theorem qF(os:Os)(started:os.Started)(H:Type)(enc:TypeId×Value→H):
 ReturnsInHanded {} Try.checked os 5 .any (Rows.fnExactPutTapeSpec.pre6 enc Try.prog Try.f5 Rows.fnExactPutTapeRow.domain false) (Rows.fnExactPutTapeSpec.post enc Try.prog Try.f5 false true false false):=by
 refine returnsInHanded_of_change (C:=Try.checked) Us started (by kernel_rfl) Try.func5
  (ChangeSpec.witness6 (enc:=enc) (C:=Try.checked) false ⟨#[], #[.slice none 0 0,.int .i64 0,.int .i64 0,.slice none 0 0],[]⟩ 8 (by kernel_rfl) (by kernel_rfl) (by kernel_rfl) (by kernel_rfl)) ?_
 intro W base args ds gs before hval0 hW hcnd _;have hval:∀(j:Nat) t v,Try.f5.params[j]? =some t→args[j]? =some v→Value.okWide Try.prog W .any base t v:=hval0;have hW':=hW;obtain⟨p,q,hA0,hV,rfl,hfz,hnd⟩:=hW;have hA:DataW.TrodAll enc Try.prog W 0 (fun _=>true) true Try.f5.params.toList args.toList ds p:=hA0;rw[Try.params5]at hA hval;obtain⟨v0,vs0,d0,ds0,p0,q0,ha0,rfl,rfl,h0,r0⟩:=trodAll_cons hA;obtain⟨v1,vs1,d1,ds1,p1,q1,ha1,rfl,rfl,h1,r1⟩:=trodAll_cons r0;obtain⟨v2,vs2,d2,ds2,p2,q2,ha2,rfl,rfl,h2,r2⟩:=trodAll_cons r1;obtain⟨v3,vs3,d3,ds3,p3,q3,ha3,rfl,rfl,h3,r3⟩:=trodAll_cons r2;obtain⟨rfl,rfl,rfl⟩:=trodAll_nil r3;subst ha3;subst ha2;subst ha1;obtain rfl:args= #[v0,v1,v2,v3]:=by cases args;simp_all
 obtain⟨rfl,rfl⟩:=trodVars_none hV;obtain⟨x0,fx0,hx0,wx0⟩:=xM Try.underlying22 (hval 0 22 v0 rfl rfl) (fun n=>CZ n) h0;obtain⟨x1,rfl,hx1⟩:=vT Try.underlying3 (hval 1 3 v1 rfl rfl) h1;obtain⟨x2,rfl,hx2⟩:=vT Try.underlying3 (hval 2 3 v2 rfl rfl) h2;obtain⟨x3,fx3,hx3,wx3⟩:=xM Try.underlying53 (hval 3 53 v3 rfl rfl) (fun n=>C9 n) h3;clear hA0 hval0;have hlt:∀z∈p0++(p1++(p2++(p3++ []))),z.block<W.heap.size:=fun z hz=>hW'.lt z (by simpa using hz)
 refine(tJ x0 fx0 _ x1 x2 x3 fx3 _ W hx0 wx0 hx1 hx2 hx3 wx3).mono fun e W' ⟨he,hb⟩=> ?_
 subst he;exact⟨_,rfl,sH (pa:=p0++(p1++(p2++(p3++ [])))) (pv:= []) hW' (fun _ _ _=>trodAll_mk1 (shut_bool Try.underlying4 _))
  (fun sp hsp=>⟨_,_,e_ lW (by kernel_rfl) (of_decide_eq_true (by kernel_rfl)) h0 (fun z hz=>hb.same (hlt z (f_ _ hz))) (fun z hz=>hsp z (by simp[hz])),⟨_,_,e_ lW (by kernel_rfl) (of_decide_eq_true (by kernel_rfl)) h1 (fun z hz=>hb.same (hlt z (c_ _ (f_ _ hz)))) (fun z hz=>hsp z (by simp[hz])),⟨_,_,e_ lW (by kernel_rfl) (of_decide_eq_true (by kernel_rfl)) h2 (fun z hz=>hb.same (hlt z (c_ _ (c_ _ (f_ _ hz))))) (fun z hz=>hsp z (by simp[hz])),⟨_,_,e_ lW (by kernel_rfl) (of_decide_eq_true (by kernel_rfl)) h3 (fun z hz=>hb.same (hlt z (c_ _ (c_ _ (c_ _ (f_ _ hz)))))) (fun z hz=>hsp z (by simp[hz])),rfl,rfl⟩,rfl⟩,rfl⟩,rfl⟩) (fun _ _=>rfl) (by simp) hb (ok_one (by kernel_rfl) rfl (okWide_bool_mk Try.underlying4 _))⟩
theorem proved_FnExactPutTape :Rows.FnExactPutTapeSaid:=
 OpenClaim.holds_of_wide 5 Try.f5 rfl rfl rfl rfl rfl rfl rfl ⟨rfl,rfl,rfl,rfl,rfl⟩ rfl rfl rfl rfl rfl (by kernel_rfl) Try.func5 (by kernel_rfl)
  (of_decide_eq_true (by kernel_rfl)) (by unfold Func.isWrapper;first|(rw[if_pos (by decide+kernel)];kernel_rfl)|(rw[if_neg (by decide+kernel)];exact⟨rfl,rfl⟩))
  (fun os started H enc _=>qF os started H enc)
end Go.Proofs.Ytagaefgglphkgaa
