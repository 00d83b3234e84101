/-
  The program's FixedValue returns what the reference's returns, for all arguments. No condition.
-/
import Derived.Test.YtagaefgglphkgaaGreatJA
import Derived.Test.YtagaefgglphkgaaGreatJF
import Derived.Test.YtagaefgglphkgaaGreatJG
import Derived.Test.YtagaefgglphkgaaGreatJM
set_option maxHeartbeats 100000000
set_option maxRecDepth 100000
set_option linter.unusedSimpArgs false
set_option linter.unusedVariables false
namespace Go.Proofs.YtagaefgglphkgaaGreat
open Go.RowKit
open Nat renaming lt_of_lt_of_le→a_,lt_irrefl→b_,le_refl→c_,zero_le→i_
open Below renaming refl→d_
theorem uD(l0:List GPart)(fx0:List Nat)(v0:Value)(n1:Int)(w:World)(hx0:Sl w (l0.map GPart.toD) fx0 v0)(wx0:D.wfs (l0.map GPart.toD))(hx1:(Lit.int .i64 n1).wf=true):
 Calls Tryz.prog 4 #[v0,.int .i64 n1] w (eG w):=by
 obtain⟨A0,d0,rfl,hqa,hqb⟩:=hx0.au;clear hqa hqb
 go_enter Tryz.func4,Tryz.ntmps4
 go_wp2_with fail
 refine(zK l0 _ _ _ _ (hx0) wx0 (by omega) (by omega)).mono ?_;rintro e w1 ⟨r1,rfl,hr1,hqa,hqb,hb1⟩;have L1:Below w.heap.size w w1:=hb1;have G1:Below w.heap.size w w1:=L1;clear L1 hb1
 go_wp2_with fail
 ·go_ret
  exact⟨rfl,G1⟩
 have hw0:(l0.map GPart.toD).length+D.wts (l0.map GPart.toD)≤1048576:=by have:=hr1.le (by omega);omega
 have hn0:l0.length≤1048576:=by have:=hw0;rw[List.length_map]at this;omega
 have hc0:D.cnts (l0.map GPart.toD)≤14680064:=by have:=D.zu _ (GPart.fC l0);omega
 have hwm:=hw0;rw[List.length_map]at hwm;have hcr:(GVal.toD (pV l0 n1).1).acnt≤14680080:=TM l0 n1 hwm;clear hr1;refine(iR l0 _ _ _ ((hx0.below G1)) hw0).mono ?_;rintro e w2 ⟨f2,vv2,rfl,S2,F2,hb2⟩;obtain⟨A_t1,d_t1,rfl,hqa,hqb⟩:=S2.au;clear hqa hqb;have L2:Below w1.heap.size w1 w2:=hb2;have F2b:=F2.mono (base':=w1.heap.size) (c_ _);have G2:Below w.heap.size w w2:=G1.trans (L2.mono G1.size);have F2c:=F2b.mono (base':=w.heap.size) (G1.size);clear G1 F2 F2b L2 hb2
 go_wp2_with fail
 refine(GK l0 n1 _ _ _ (S2) hwm).mono ?_;rintro e w3 ⟨f3_0,vv3_0,rfl,S3_0,F3_0,hb3⟩;obtain⟨u_w00,u_w01,u_w02,g_w00,g_w01,g_w02,hqf,rfl,hU_w00,hU_w01,hU_w02⟩:=GVal.opened.1 S3_0;clear hqf;obtain⟨A_w00,d_w00,rfl,hqa,hqb⟩:=hU_w00.au;clear hqa hqb hU_w00;obtain⟨A_w01,d_w01,rfl,hqa,hqb⟩:=hU_w01.au;clear hqa hqb hU_w01;obtain⟨A_w02,d_w02,rfl,hqa,hqb⟩:=hU_w02.au;clear hqa hqb hU_w02;have L3:Below w2.heap.size w2 w3:=hb3;have F3_0b:=F3_0.mono (base':=w2.heap.size) (c_ _);have G3:Below w.heap.size w w3:=G2.trans (L3.mono G2.size);have F3_0c:=F3_0b.mono (base':=w.heap.size) (G2.size);clear G2 F3_0 F3_0b L3 hb3;have nb_0_w0:w3.heap.size∉f3_0:=fun hy=>by have:=R.lt S3_0 _ hy;omega
 go_wp2_with fail
 refine(iR l0 _ _ _ ((hx0.below G3).below ((d_ _ _).alloc (c_ _) _)) hw0).mono ?_;rintro e w4 ⟨f4,vv4,rfl,S4,F4,hb4⟩;obtain⟨A_x0,d_x0,rfl,hqa,hqb⟩:=S4.au;clear hqa hqb;obtain⟨rw4_0,hz4,L4⟩:=Qc hb4;have F4b:=F4.mono (base':=w3.heap.size) (by simp;try omega);have D_w0_x0:∀x∈f3_0,x∉f4:=fun x hx hy=>b_ _ (a_ (R.lt S3_0 x hx) ((F4b.2 x hy).1))
 have nb_0_x0:w3.heap.size∉f4:=fun hy=>by have:=(F4.2 _ hy).1;simp at this;try omega
 have G4:Below w.heap.size w w4:=G3.trans (L4.mono G3.size);have F4c:=F4b.mono (base':=w.heap.size) (G3.size);have S4_w0:=S3_0.below L4;have F4_w0:=F3_0c.below (R.lt S3_0) L4;have kc4_0:=rw4_0.cell;clear G3 F4 F4b S3_0 F3_0c L4 hb4 hz4
 go_wp2_with fail
 refine(xB l0 n1 _ _ _ (S4) hwm).mono ?_;rintro e w5 ⟨f5_0,vv5_0,rfl,S5_0,F5_0,hb5⟩;obtain⟨u_g00,u_g01,u_g02,g_g00,g_g01,g_g02,hqf,rfl,hU_g00,hU_g01,hU_g02⟩:=GVal.opened.1 S5_0;clear hqf;obtain⟨A_g00,d_g00,rfl,hqa,hqb⟩:=hU_g00.au;clear hqa hqb hU_g00;obtain⟨A_g01,d_g01,rfl,hqa,hqb⟩:=hU_g01.au;clear hqa hqb hU_g01;obtain⟨A_g02,d_g02,rfl,hqa,hqb⟩:=hU_g02.au;clear hqa hqb hU_g02;have L5:Below w4.heap.size w4 w5:=hb5;have rr5_0:=rw4_0.below L5;have F5_0b:=F5_0.mono (base':=w4.heap.size) (c_ _);have D_w0_g0:∀x∈f3_0,x∉f5_0:=fun x hx hy=>b_ _ (a_ (R.lt S4_w0 x hx) ((F5_0b.2 x hy).1))
 have D_x0_g0:∀x∈f4,x∉f5_0:=fun x hx hy=>b_ _ (a_ (R.lt S4 x hx) ((F5_0b.2 x hy).1))
 have nb_0_g0:w3.heap.size∉f5_0:=fun hy=>b_ _ (a_ rw4_0.lt ((F5_0b.2 _ hy).1))
 have G5:Below w.heap.size w w5:=G4.trans (L5.mono G4.size);have F5_0c:=F5_0b.mono (base':=w.heap.size) (G4.size);have S5_w0:=S4_w0.below L5;have F5_w0:=F4_w0.below (R.lt S4_w0) L5;have S5_x0:=S4.below L5;have F5_x0:=F4c.below (R.lt S4) L5;have kc5_0:=rr5_0.cell;have kj5_0:=fun o=>(rr5_0.below ((d_ w5.heap.size w5).alloc (c_ _) o)).cell
 clear rw4_0 G4 F5_0 F5_0b S4_w0 F4_w0 S4 F4c kc4_0 L5 hb5;have nb_1_w0:w5.heap.size∉f3_0:=fun hy=>by have:=R.lt S5_w0 _ hy;omega
 have nb_1_x0:w5.heap.size∉f4:=fun hy=>by have:=R.lt S5_x0 _ hy;omega
 have nb_1_g0:w5.heap.size∉f5_0:=fun hy=>by have:=R.lt S5_0 _ hy;omega
 go_wp2_with fail
 refine(GVal.jJ ((pV l0 n1).1) _ _ _ _ _ (S5_0.below ((d_ _ _).alloc (c_ _) _)) (S5_w0.below ((d_ _ _).alloc (c_ _) _))).mono ?_;rintro e w6 ⟨rfl,hb6⟩;obtain⟨rw6_0,hz6,L6⟩:=Qc hb6;have rr6_0:=rr5_0.below L6;have G6:Below w.heap.size w w6:=G5.trans (L6.mono G5.size);have S6_w0:=S5_w0.below L6;have F6_w0:=F5_w0.below (R.lt S5_w0) L6;have S6_x0:=S5_x0.below L6;have F6_x0:=F5_x0.below (R.lt S5_x0) L6;have S6_g0:=S5_0.below L6;have F6_g0:=F5_0c.below (R.lt S5_0) L6;have kc6_0:=rr6_0.cell;have kc6_1:=rw6_0.cell;clear rr5_0 G5 S5_w0 F5_w0 S5_x0 F5_x0 S5_0 F5_0c kc5_0 kj5_0 L6 hb6 hz6
 go_wp2_with fail
 refine(iR l0 _ _ _ ((hx0.below G6)) hw0).mono ?_;rintro e w7 ⟨f7,vv7,rfl,S7,F7,hb7⟩;obtain⟨A_t3,d_t3,rfl,hqa,hqb⟩:=S7.au;clear hqa hqb;have L7:Below w6.heap.size w6 w7:=hb7;have rr7_0:=rr6_0.below L7;have rr7_1:=rw6_0.below L7;have F7b:=F7.mono (base':=w6.heap.size) (c_ _);have D_w0_t3:∀x∈f3_0,x∉f7:=fun x hx hy=>b_ _ (a_ (R.lt S6_w0 x hx) ((F7b.2 x hy).1))
 have D_x0_t3:∀x∈f4,x∉f7:=fun x hx hy=>b_ _ (a_ (R.lt S6_x0 x hx) ((F7b.2 x hy).1))
 have D_g0_t3:∀x∈f5_0,x∉f7:=fun x hx hy=>b_ _ (a_ (R.lt S6_g0 x hx) ((F7b.2 x hy).1))
 have nb_0_t3:w3.heap.size∉f7:=fun hy=>b_ _ (a_ rr6_0.lt ((F7b.2 _ hy).1))
 have nb_1_t3:w5.heap.size∉f7:=fun hy=>b_ _ (a_ rw6_0.lt ((F7b.2 _ hy).1))
 have G7:Below w.heap.size w w7:=G6.trans (L7.mono G6.size);have F7c:=F7b.mono (base':=w.heap.size) (G6.size);have S7_w0:=S6_w0.below L7;have F7_w0:=F6_w0.below (R.lt S6_w0) L7;have S7_x0:=S6_x0.below L7;have F7_x0:=F6_x0.below (R.lt S6_x0) L7;have S7_g0:=S6_g0.below L7;have F7_g0:=F6_g0.below (R.lt S6_g0) L7;have kc7_0:=rr7_0.cell;have kc7_1:=rr7_1.cell;clear rr6_0 rw6_0 G6 F7 F7b S6_w0 F6_w0 S6_x0 F6_x0 S6_g0 F6_g0 kc6_0 kc6_1 L7 hb7
 go_wp2_with fail
 refine(zL (l0) _ _ _ _ _ (S7_x0) (S7)).mono ?_;rintro e w8 ⟨rfl,hb8⟩;have L8:Below w7.heap.size w7 w8:=hb8;have rr8_0:=rr7_0.below L8;have rr8_1:=rr7_1.below L8;have G8:Below w.heap.size w w8:=G7.trans (L8.mono G7.size);have S8_w0:=S7_w0.below L8;have F8_w0:=F7_w0.below (R.lt S7_w0) L8;have S8_x0:=S7_x0.below L8;have F8_x0:=F7_x0.below (R.lt S7_x0) L8;have S8_g0:=S7_g0.below L8;have F8_g0:=F7_g0.below (R.lt S7_g0) L8;have kc8_0:=rr8_0.cell;have kc8_1:=rr8_1.cell;clear rr7_0 rr7_1 G7 S7_w0 F7_w0 S7_x0 F7_x0 S7_g0 F7_g0 kc7_0 kc7_1 L8 hb8
 go_wp2_with fail
 refine(FZ (l0) _ _ _ _ (S8_x0) (F8_x0.mono (i_ _)) (by omega) (by omega)).mono ?_;rintro e w9 ⟨rfl,SM9,hb9⟩;have rr9_0:=rr8_0.touch hb9 nb_0_x0;have rr9_1:=rr8_1.touch hb9 nb_1_x0;have G9:Below w.heap.size w w9:=Touch.toBelow G8 hb9 (fun x hx=>(F8_x0.2 x hx).1) G8.size;have S9_w0:=S8_w0.touch hb9 D_w0_x0;have F9_w0:=F8_w0.touch (R.lt S8_w0) hb9;have S9_g0:=S8_g0.touch hb9 (fun x hx hy=>D_x0_g0 x hy hx);have F9_g0:=F8_g0.touch (R.lt S8_g0) hb9;have F9_x0:=F8_x0.touch (R.lt S8_x0) hb9;have kc9_0:=rr9_0.cell;have kc9_1:=rr9_1.cell;clear rr8_0 rr8_1 G8 S8_w0 F8_w0 S8_g0 F8_g0 S8_x0 F8_x0 kc8_0 kc8_1 hb9
 go_wp2_with fail
 refine(GVal.jJ ((pV l0 n1).1) _ _ _ _ _ (S9_g0) (S9_w0)).mono ?_;rintro e w10 ⟨rfl,hb10⟩;have L10:Below w9.heap.size w9 w10:=hb10;have rr10_0:=rr9_0.below L10;have rr10_1:=rr9_1.below L10;have G10:Below w.heap.size w w10:=G9.trans (L10.mono G9.size);have S10_w0:=S9_w0.below L10;have F10_w0:=F9_w0.below (R.lt S9_w0) L10;have S10_g0:=S9_g0.below L10;have F10_g0:=F9_g0.below (R.lt S9_g0) L10;have kc10_0:=rr10_0.cell;have kc10_1:=rr10_1.cell;clear rr9_0 rr9_1 G9 S9_w0 F9_w0 S9_g0 F9_g0 kc9_0 kc9_1 L10 hb10
 go_wp2_with fail
 refine(GVal.mark ((pV l0 n1).1) _ _ _ _ (S10_g0) (F10_g0.mono (i_ _)) (by omega) (by omega)).mono ?_;rintro e w11 ⟨rfl,SM11,hb11⟩;have rr11_0:=rr10_0.touch hb11 nb_0_g0;have rr11_1:=rr10_1.touch hb11 nb_1_g0;have G11:Below w.heap.size w w11:=Touch.toBelow G10 hb11 (fun x hx=>(F10_g0.2 x hx).1) G10.size;have S11_w0:=S10_w0.touch hb11 D_w0_g0;have F11_w0:=F10_w0.touch (R.lt S10_w0) hb11;have F11_g0:=F10_g0.touch (R.lt S10_g0) hb11;have kc11_0:=rr11_0.cell;have kc11_1:=rr11_1.cell;clear rr10_0 rr10_1 G10 S10_w0 F10_w0 S10_g0 F10_g0 kc10_0 kc10_1 hb11
 go_wp2_with fail
 refine(GVal.held ((pV l0 n1).1) _ _ _ _ (SM11) (by omega) (by omega)).mono ?_;rintro e w12 ⟨rfl,hb12⟩;have L12:Below w11.heap.size w11 w12:=hb12;have rr12_0:=rr11_0.below L12;have rr12_1:=rr11_1.below L12;have G12:Below w.heap.size w w12:=G11.trans (L12.mono G11.size);have S12_w0:=S11_w0.below L12;have F12_w0:=F11_w0.below (R.lt S11_w0) L12;have S12_g0:=SM11.below L12;have F12_g0:=F11_g0.below (R.lt SM11) L12;have kc12_0:=rr12_0.cell;have kc12_1:=rr12_1.cell;clear rr11_0 rr11_1 G11 S11_w0 F11_w0 SM11 F11_g0 kc11_0 kc11_1 L12 hb12
 go_wp2_with fail
 refine(iR l0 _ _ _ ((hx0.below G12)) hw0).mono ?_;rintro e w13 ⟨f13,vv13,rfl,S13,F13,hb13⟩;obtain⟨A_t4,d_t4,rfl,hqa,hqb⟩:=S13.au;clear hqa hqb;have L13:Below w12.heap.size w12 w13:=hb13;have rr13_0:=rr12_0.below L13;have rr13_1:=rr12_1.below L13;have F13b:=F13.mono (base':=w12.heap.size) (c_ _);have D_w0_t4:∀x∈f3_0,x∉f13:=fun x hx hy=>b_ _ (a_ (R.lt S12_w0 x hx) ((F13b.2 x hy).1))
 have D_g0_t4:∀x∈f5_0,x∉f13:=fun x hx hy=>b_ _ (a_ (R.lt S12_g0 x hx) ((F13b.2 x hy).1))
 have nb_0_t4:w3.heap.size∉f13:=fun hy=>b_ _ (a_ rr12_0.lt ((F13b.2 _ hy).1))
 have nb_1_t4:w5.heap.size∉f13:=fun hy=>b_ _ (a_ rr12_1.lt ((F13b.2 _ hy).1))
 have G13:Below w.heap.size w w13:=G12.trans (L13.mono G12.size);have F13c:=F13b.mono (base':=w.heap.size) (G12.size);have S13_w0:=S12_w0.below L13;have F13_w0:=F12_w0.below (R.lt S12_w0) L13;have S13_g0:=S12_g0.below L13;have F13_g0:=F12_g0.below (R.lt S12_g0) L13;have kc13_0:=rr13_0.cell;have kc13_1:=rr13_1.cell;clear rr12_0 rr12_1 G12 F13 F13b S12_w0 F12_w0 S12_g0 F12_g0 kc12_0 kc12_1 L13 hb13
 go_wp2_with fail
 refine(xB l0 n1 _ _ _ (S13) hwm).mono ?_;rintro e w14 ⟨f14_0,vv14_0,rfl,S14_0,F14_0,hb14⟩;obtain⟨u_h00,u_h01,u_h02,g_h00,g_h01,g_h02,hqf,rfl,hU_h00,hU_h01,hU_h02⟩:=GVal.opened.1 S14_0;clear hqf;obtain⟨A_h00,d_h00,rfl,hqa,hqb⟩:=hU_h00.au;clear hqa hqb hU_h00;obtain⟨A_h01,d_h01,rfl,hqa,hqb⟩:=hU_h01.au;clear hqa hqb hU_h01;obtain⟨A_h02,d_h02,rfl,hqa,hqb⟩:=hU_h02.au;clear hqa hqb hU_h02;have L14:Below w13.heap.size w13 w14:=hb14;have rr14_0:=rr13_0.below L14;have rr14_1:=rr13_1.below L14;have F14_0b:=F14_0.mono (base':=w13.heap.size) (c_ _);have D_w0_h0:∀x∈f3_0,x∉f14_0:=fun x hx hy=>b_ _ (a_ (R.lt S13_w0 x hx) ((F14_0b.2 x hy).1))
 have D_g0_h0:∀x∈f5_0,x∉f14_0:=fun x hx hy=>b_ _ (a_ (R.lt S13_g0 x hx) ((F14_0b.2 x hy).1))
 have nb_0_h0:w3.heap.size∉f14_0:=fun hy=>b_ _ (a_ rr13_0.lt ((F14_0b.2 _ hy).1))
 have nb_1_h0:w5.heap.size∉f14_0:=fun hy=>b_ _ (a_ rr13_1.lt ((F14_0b.2 _ hy).1))
 have G14:Below w.heap.size w w14:=G13.trans (L14.mono G13.size);have F14_0c:=F14_0b.mono (base':=w.heap.size) (G13.size);have S14_w0:=S13_w0.below L14;have F14_w0:=F13_w0.below (R.lt S13_w0) L14;have S14_g0:=S13_g0.below L14;have F14_g0:=F13_g0.below (R.lt S13_g0) L14;have kc14_0:=rr14_0.cell;have kj14_0:=fun o=>(rr14_0.below ((d_ w14.heap.size w14).alloc (c_ _) o)).cell
 have kc14_1:=rr14_1.cell;have kj14_1:=fun o=>(rr14_1.below ((d_ w14.heap.size w14).alloc (c_ _) o)).cell
 clear rr13_0 rr13_1 G13 F14_0 F14_0b S13_w0 F13_w0 S13_g0 F13_g0 kc13_0 kc13_1 L14 hb14;have nb_2_w0:w14.heap.size∉f3_0:=fun hy=>by have:=R.lt S14_w0 _ hy;omega
 have nb_2_g0:w14.heap.size∉f5_0:=fun hy=>by have:=R.lt S14_g0 _ hy;omega
 have nb_2_h0:w14.heap.size∉f14_0:=fun hy=>by have:=R.lt S14_0 _ hy;omega
 go_wp2_with fail
 refine(GVal.jJ ((pV l0 n1).1) _ _ _ _ _ (S14_0.below ((d_ _ _).alloc (c_ _) _)) (S14_w0.below ((d_ _ _).alloc (c_ _) _))).mono ?_;rintro e w15 ⟨rfl,hb15⟩;obtain⟨rw15_0,hz15,L15⟩:=Qc hb15;have rr15_0:=rr14_0.below L15;have rr15_1:=rr14_1.below L15;have G15:Below w.heap.size w w15:=G14.trans (L15.mono G14.size);have S15_w0:=S14_w0.below L15;have F15_w0:=F14_w0.below (R.lt S14_w0) L15;have S15_g0:=S14_g0.below L15;have F15_g0:=F14_g0.below (R.lt S14_g0) L15;have S15_h0:=S14_0.below L15;have F15_h0:=F14_0c.below (R.lt S14_0) L15;have kc15_0:=rr15_0.cell;have kc15_1:=rr15_1.cell;have kc15_2:=rw15_0.cell;clear rr14_0 rr14_1 G14 S14_w0 F14_w0 S14_g0 F14_g0 S14_0 F14_0c kc14_0 kj14_0 kc14_1 kj14_1 L15 hb15 hz15
 go_wp2_with fail
 refine(GVal.held ((pV l0 n1).1) _ _ _ _ (S15_g0) (by omega) (by omega)).mono ?_;rintro e w16 ⟨rfl,hb16⟩;have L16:Below w15.heap.size w15 w16:=hb16;have rr16_0:=rr15_0.below L16;have rr16_1:=rr15_1.below L16;have rr16_2:=rw15_0.below L16;have G16:Below w.heap.size w w16:=G15.trans (L16.mono G15.size);have S16_g0:=S15_g0.below L16;have F16_g0:=F15_g0.below (R.lt S15_g0) L16;have kc16_0:=rr16_0.cell;have kc16_1:=rr16_1.cell;have kc16_2:=rr16_2.cell;clear rr15_0 rr15_1 rw15_0 G15 S15_g0 F15_g0 kc15_0 kc15_1 kc15_2 L16 hb16
 go_wp2_with fail
 go_ret
 exact⟨rfl,G16⟩
open Go.ChangeShapes Go.WideShapes Go.ChangeAt
theorem qN(os:Os)(started:os.Started)(H:Type)(enc:TypeId×Value→H):
 ReturnsInHanded {} Tryz.checked os 4 .any (Rows.fnExactFixedValueSpec.pre6 enc Tryz.prog Tryz.f4 Rows.fnExactFixedValueRow.domain false) (Rows.fnExactFixedValueSpec.post enc Tryz.prog Tryz.f4 false true false false):=by
 refine returnsInHanded_of_change (C:=Tryz.checked) ZW started (by kernel_rfl) Tryz.func4
  (ChangeSpec.witness6 (enc:=enc) (C:=Tryz.checked) false ⟨#[], #[.slice none 0 0,.int .i64 0],[]⟩ 8 (by kernel_rfl) (by kernel_rfl) (by kernel_rfl) (by kernel_rfl)) ?_
 intro W base args ds gs before hval0 hW hcnd _;have hval:∀(j:Nat) t v,Tryz.f4.params[j]? =some t→args[j]? =some v→Value.okWide Tryz.prog W .any base t v:=hval0;have hW':=hW;obtain⟨p,q,hA0,hV,rfl,hfz,hnd⟩:=hW;have hA:DataW.TrodAll enc Tryz.prog W 0 (fun _=>true) true Tryz.f4.params.toList args.toList ds p:=hA0;rw[Tryz.params4]at hA hval;obtain⟨v0,vs0,d0,ds0,p0,q0,ha0,rfl,rfl,h0,r0⟩:=trodAll_cons hA;obtain⟨v1,vs1,d1,ds1,p1,q1,ha1,rfl,rfl,h1,r1⟩:=trodAll_cons r0;obtain⟨rfl,rfl,rfl⟩:=trodAll_nil r1;subst ha1;obtain rfl:args= #[v0,v1]:=by cases args;simp_all
 obtain⟨rfl,rfl⟩:=trodVars_none hV;obtain⟨x0,fx0,hx0,wx0⟩:=A8 Tryz.underlying22 (hval 0 22 v0 rfl rfl) (fun n=>Hy n) h0;obtain⟨x1,rfl,hx1⟩:=RG Tryz.underlying3 (hval 1 3 v1 rfl rfl) h1;clear hA0 hval0;have hlt:∀z∈p0++(p1++ []),z.block<W.heap.size:=fun z hz=>hW'.lt z (by simpa using hz)
 refine(uD x0 fx0 _ x1 W hx0 wx0 hx1).mono fun e W' ⟨he,hb⟩=> ?_
 subst he;exact⟨_,rfl,xq (pa:=p0++(p1++ [])) (pv:= []) hW' (fun _ _ _=>trodAll_mk1 (shut_bool Tryz.underlying4 _))
  (fun sp hsp=>⟨_,_,WideElems.Trod_stays uX (by kernel_rfl) (of_decide_eq_true (by kernel_rfl)) h0 (fun z hz=>hb.same (hlt z (List.mem_append_left _ hz))) (fun z hz=>hsp z (by simp[hz])),⟨_,_,WideElems.Trod_stays uX (by kernel_rfl) (of_decide_eq_true (by kernel_rfl)) h1 (fun z hz=>hb.same (hlt z (List.mem_append_right _ (List.mem_append_left _ hz)))) (fun z hz=>hsp z (by simp[hz])),rfl,rfl⟩,rfl⟩) (fun _ _=>rfl) (by simp) hb (ok_one (by kernel_rfl) rfl (okWide_bool_mk Tryz.underlying4 _))⟩
theorem proved_FnExactFixedValue :Rows.FnExactFixedValueSaid:=
 OpenClaim.holds_of_wide 4 Tryz.f4 rfl rfl rfl rfl rfl rfl rfl ⟨rfl,rfl,rfl,rfl,rfl⟩ rfl rfl rfl rfl rfl (by kernel_rfl) Tryz.func4 (by kernel_rfl)
  (of_decide_eq_true (by kernel_rfl)) (by unfold Func.isWrapper;first|(rw[if_pos (by decide+kernel)];kernel_rfl)|(rw[if_neg (by decide+kernel)];exact⟨rfl,rfl⟩))
  (fun os started H enc _=>qN os started H enc)
end Go.Proofs.YtagaefgglphkgaaGreat
