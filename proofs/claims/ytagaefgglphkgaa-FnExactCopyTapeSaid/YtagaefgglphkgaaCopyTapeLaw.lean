/-
  The program's CopyTape returns what the reference's returns, for all arguments. No condition.
-/
import Derived.Test.YtagaefgglphkgaaJA
import Derived.Test.YtagaefgglphkgaaJF
import Derived.Test.YtagaefgglphkgaaJG
import Derived.Test.YtagaefgglphkgaaJO
set_option maxHeartbeats 100000000
set_option maxRecDepth 100000
set_option linter.unusedSimpArgs false
set_option linter.unusedVariables false
namespace Go.Proofs.Ytagaefgglphkgaa
open Go.RowKit
open Nat renaming lt_of_lt_of_le→a_,lt_irrefl→b_,le_refl→f_,zero_le→h_
open List renaming mem_append_right→c_,mem_append_left→e_
open WideElems renaming Trod_stays→d_
theorem su(l0:List GTape)(fx0:List Nat)(v0:Value)(n1:Int)(n2:Int)(n3:Int)(w:World)(hx0:Sl w (l0.map GTape.toD) fx0 v0)(wx0:D.wfs (l0.map GTape.toD))(hx1:(Lit.int .i64 n1).wf=true)(hx2:(Lit.int .i64 n2).wf=true)(hx3:(Lit.int .i64 n3).wf=true):
 Calls Try.prog 6 #[v0,.int .i64 n1,.int .i64 n2,.int .i64 n3] w (dZ w):=by
 obtain⟨A0,d0,rfl,hqa,hqb⟩:=hx0.ak;clear hqa hqb
 go_enter Try.func6,Try.ntmps6
 go_wp2_with fail
 refine(vW l0 _ _ _ _ (hx0) wx0 (by omega) (by omega)).mono ?_;rintro e w1 ⟨r1,rfl,hr1,hqa,hqb,hb1⟩;have L1:Below w.heap.size w w1:=hb1;have G1:Below w.heap.size w w1:=L1;clear L1 hb1
 go_wp2_with fail
 ·go_ret
  exact⟨rfl,G1⟩
 have hw0:(l0.map GTape.toD).length+D.wts (l0.map GTape.toD)≤1048576:=by have:=hr1.le (by omega);omega
 have hn0:l0.length≤1048576:=by have:=hw0;rw[List.length_map]at this;omega
 have hc0:D.cnts (l0.map GTape.toD)≤14680064:=by have:=D.rW _ (GTape.fQ l0);omega
 have hwm:D.wts (l0.map GTape.toD)≤1048576:=by omega
 have hcr:D.cnts ((lY l0 n1 n2 n3).map GTape.toD)≤4611686018427387:=Nu l0 n1 n2 n3 hn0 hwm;clear hr1;refine(iQ l0 _ _ _ ((hx0.below G1)) hw0).mono ?_;rintro e w2 ⟨f2,vv2,rfl,S2,F2,hb2⟩;obtain⟨A_t1,d_t1,rfl,hqa,hqb⟩:=S2.ak;clear hqa hqb;have L2:Below w1.heap.size w1 w2:=hb2;have F2b:=F2.mono (base':=w1.heap.size) (f_ _);have G2:Below w.heap.size w w2:=G1.trans (L2.mono G1.size);have F2c:=F2b.mono (base':=w.heap.size) (G1.size);clear G1 F2 F2b L2 hb2
 go_wp2_with fail
 refine(vK l0 n1 n2 n3 _ _ _ (S2) hn0 hwm).mono ?_;rintro e w3 ⟨f3_0,vv3_0,rfl,S3_0,F3_0,hb3⟩;obtain⟨A_w0,d_w0,rfl,hqa,hqb⟩:=S3_0.ak;clear hqa hqb;have L3:Below w2.heap.size w2 w3:=hb3;have F3_0b:=F3_0.mono (base':=w2.heap.size) (f_ _);have G3:Below w.heap.size w w3:=G2.trans (L3.mono G2.size);have F3_0c:=F3_0b.mono (base':=w.heap.size) (G2.size);clear G2 F3_0 F3_0b L3 hb3
 go_wp2_with fail
 refine(iQ l0 _ _ _ ((hx0.below G3)) hw0).mono ?_;rintro e w4 ⟨f4,vv4,rfl,S4,F4,hb4⟩;obtain⟨A_x0,d_x0,rfl,hqa,hqb⟩:=S4.ak;clear hqa hqb;have L4:Below w3.heap.size w3 w4:=hb4;have F4b:=F4.mono (base':=w3.heap.size) (f_ _);have D_w0_x0:∀x∈f3_0,x∉f4:=fun x hx hy=>b_ _ (a_ (R.lt S3_0 x hx) ((F4b.2 x hy).1))
 have G4:Below w.heap.size w w4:=G3.trans (L4.mono G3.size);have F4c:=F4b.mono (base':=w.heap.size) (G3.size);have S4_w0:=S3_0.below L4;have F4_w0:=F3_0c.below (R.lt S3_0) L4;clear G3 F4 F4b S3_0 F3_0c L4 hb4
 go_wp2_with fail
 refine(oz l0 n1 n2 n3 _ _ _ (S4) hn0 hwm).mono ?_;rintro e w5 ⟨f5_0,vv5_0,rfl,S5_0,F5_0,hb5⟩;obtain⟨A_g0,d_g0,rfl,hqa,hqb⟩:=S5_0.ak;clear hqa hqb;have L5:Below w4.heap.size w4 w5:=hb5;have F5_0b:=F5_0.mono (base':=w4.heap.size) (f_ _);have D_w0_g0:∀x∈f3_0,x∉f5_0:=fun x hx hy=>b_ _ (a_ (R.lt S4_w0 x hx) ((F5_0b.2 x hy).1))
 have D_x0_g0:∀x∈f4,x∉f5_0:=fun x hx hy=>b_ _ (a_ (R.lt S4 x hx) ((F5_0b.2 x hy).1))
 have G5:Below w.heap.size w w5:=G4.trans (L5.mono G4.size);have F5_0c:=F5_0b.mono (base':=w.heap.size) (G4.size);have S5_w0:=S4_w0.below L5;have F5_w0:=F4_w0.below (R.lt S4_w0) L5;have S5_x0:=S4.below L5;have F5_x0:=F4c.below (R.lt S4) L5;clear G4 F5_0 F5_0b S4_w0 F4_w0 S4 F4c L5 hb5
 go_wp2_with fail
 refine(iR (lY l0 n1 n2 n3) _ _ _ _ _ (S5_0) (S5_w0)).mono ?_;rintro e w6 ⟨rfl,hb6⟩;have L6:Below w5.heap.size w5 w6:=hb6;have G6:Below w.heap.size w w6:=G5.trans (L6.mono G5.size);have S6_w0:=S5_w0.below L6;have F6_w0:=F5_w0.below (R.lt S5_w0) L6;have S6_x0:=S5_x0.below L6;have F6_x0:=F5_x0.below (R.lt S5_x0) L6;have S6_g0:=S5_0.below L6;have F6_g0:=F5_0c.below (R.lt S5_0) L6;clear G5 S5_w0 F5_w0 S5_x0 F5_x0 S5_0 F5_0c L6 hb6
 go_wp2_with fail
 refine(iQ l0 _ _ _ ((hx0.below G6)) hw0).mono ?_;rintro e w7 ⟨f7,vv7,rfl,S7,F7,hb7⟩;obtain⟨A_t3,d_t3,rfl,hqa,hqb⟩:=S7.ak;clear hqa hqb;have L7:Below w6.heap.size w6 w7:=hb7;have F7b:=F7.mono (base':=w6.heap.size) (f_ _);have D_w0_t3:∀x∈f3_0,x∉f7:=fun x hx hy=>b_ _ (a_ (R.lt S6_w0 x hx) ((F7b.2 x hy).1))
 have D_x0_t3:∀x∈f4,x∉f7:=fun x hx hy=>b_ _ (a_ (R.lt S6_x0 x hx) ((F7b.2 x hy).1))
 have D_g0_t3:∀x∈f5_0,x∉f7:=fun x hx hy=>b_ _ (a_ (R.lt S6_g0 x hx) ((F7b.2 x hy).1))
 have G7:Below w.heap.size w w7:=G6.trans (L7.mono G6.size);have F7c:=F7b.mono (base':=w.heap.size) (G6.size);have S7_w0:=S6_w0.below L7;have F7_w0:=F6_w0.below (R.lt S6_w0) L7;have S7_x0:=S6_x0.below L7;have F7_x0:=F6_x0.below (R.lt S6_x0) L7;have S7_g0:=S6_g0.below L7;have F7_g0:=F6_g0.below (R.lt S6_g0) L7;clear G6 F7 F7b S6_w0 F6_w0 S6_x0 F6_x0 S6_g0 F6_g0 L7 hb7
 go_wp2_with fail
 refine(iR (l0) _ _ _ _ _ (S7_x0) (S7)).mono ?_;rintro e w8 ⟨rfl,hb8⟩;have L8:Below w7.heap.size w7 w8:=hb8;have G8:Below w.heap.size w w8:=G7.trans (L8.mono G7.size);have S8_w0:=S7_w0.below L8;have F8_w0:=F7_w0.below (R.lt S7_w0) L8;have S8_x0:=S7_x0.below L8;have F8_x0:=F7_x0.below (R.lt S7_x0) L8;have S8_g0:=S7_g0.below L8;have F8_g0:=F7_g0.below (R.lt S7_g0) L8;clear G7 S7_w0 F7_w0 S7_x0 F7_x0 S7_g0 F7_g0 L8 hb8
 go_wp2_with fail
 refine(qj (l0) _ _ _ _ (S8_x0) (F8_x0.mono (h_ _)) (by omega) (by omega)).mono ?_;rintro e w9 ⟨rfl,SM9,hb9⟩;have G9:Below w.heap.size w w9:=Touch.toBelow G8 hb9 (fun x hx=>(F8_x0.2 x hx).1) G8.size;have S9_w0:=S8_w0.touch hb9 D_w0_x0;have F9_w0:=F8_w0.touch (R.lt S8_w0) hb9;have S9_g0:=S8_g0.touch hb9 (fun x hx hy=>D_x0_g0 x hy hx);have F9_g0:=F8_g0.touch (R.lt S8_g0) hb9;have F9_x0:=F8_x0.touch (R.lt S8_x0) hb9;clear G8 S8_w0 F8_w0 S8_g0 F8_g0 S8_x0 F8_x0 hb9
 go_wp2_with fail
 refine(iR (lY l0 n1 n2 n3) _ _ _ _ _ (S9_g0) (S9_w0)).mono ?_;rintro e w10 ⟨rfl,hb10⟩;have L10:Below w9.heap.size w9 w10:=hb10;have G10:Below w.heap.size w w10:=G9.trans (L10.mono G9.size);have S10_w0:=S9_w0.below L10;have F10_w0:=F9_w0.below (R.lt S9_w0) L10;have S10_g0:=S9_g0.below L10;have F10_g0:=F9_g0.below (R.lt S9_g0) L10;clear G9 S9_w0 F9_w0 S9_g0 F9_g0 L10 hb10
 go_wp2_with fail
 refine(qj (lY l0 n1 n2 n3) _ _ _ _ (S10_g0) (F10_g0.mono (h_ _)) (by omega) (by omega)).mono ?_;rintro e w11 ⟨rfl,SM11,hb11⟩;have G11:Below w.heap.size w w11:=Touch.toBelow G10 hb11 (fun x hx=>(F10_g0.2 x hx).1) G10.size;have S11_w0:=S10_w0.touch hb11 D_w0_g0;have F11_w0:=F10_w0.touch (R.lt S10_w0) hb11;have F11_g0:=F10_g0.touch (R.lt S10_g0) hb11;clear G10 S10_w0 F10_w0 S10_g0 F10_g0 hb11
 go_wp2_with fail
 refine(ql (lY l0 n1 n2 n3) _ _ _ _ (SM11) (by omega) (by omega)).mono ?_;rintro e w12 ⟨rfl,hb12⟩;have L12:Below w11.heap.size w11 w12:=hb12;have G12:Below w.heap.size w w12:=G11.trans (L12.mono G11.size);have S12_w0:=S11_w0.below L12;have F12_w0:=F11_w0.below (R.lt S11_w0) L12;have S12_g0:=SM11.below L12;have F12_g0:=F11_g0.below (R.lt SM11) L12;clear G11 S11_w0 F11_w0 SM11 F11_g0 L12 hb12
 go_wp2_with fail
 refine(iQ l0 _ _ _ ((hx0.below G12)) hw0).mono ?_;rintro e w13 ⟨f13,vv13,rfl,S13,F13,hb13⟩;obtain⟨A_t4,d_t4,rfl,hqa,hqb⟩:=S13.ak;clear hqa hqb;have L13:Below w12.heap.size w12 w13:=hb13;have F13b:=F13.mono (base':=w12.heap.size) (f_ _);have D_w0_t4:∀x∈f3_0,x∉f13:=fun x hx hy=>b_ _ (a_ (R.lt S12_w0 x hx) ((F13b.2 x hy).1))
 have D_g0_t4:∀x∈f5_0,x∉f13:=fun x hx hy=>b_ _ (a_ (R.lt S12_g0 x hx) ((F13b.2 x hy).1))
 have G13:Below w.heap.size w w13:=G12.trans (L13.mono G12.size);have F13c:=F13b.mono (base':=w.heap.size) (G12.size);have S13_w0:=S12_w0.below L13;have F13_w0:=F12_w0.below (R.lt S12_w0) L13;have S13_g0:=S12_g0.below L13;have F13_g0:=F12_g0.below (R.lt S12_g0) L13;clear G12 F13 F13b S12_w0 F12_w0 S12_g0 F12_g0 L13 hb13
 go_wp2_with fail
 refine(oz l0 n1 n2 n3 _ _ _ (S13) hn0 hwm).mono ?_;rintro e w14 ⟨f14_0,vv14_0,rfl,S14_0,F14_0,hb14⟩;obtain⟨A_h0,d_h0,rfl,hqa,hqb⟩:=S14_0.ak;clear hqa hqb;have L14:Below w13.heap.size w13 w14:=hb14;have F14_0b:=F14_0.mono (base':=w13.heap.size) (f_ _);have D_w0_h0:∀x∈f3_0,x∉f14_0:=fun x hx hy=>b_ _ (a_ (R.lt S13_w0 x hx) ((F14_0b.2 x hy).1))
 have D_g0_h0:∀x∈f5_0,x∉f14_0:=fun x hx hy=>b_ _ (a_ (R.lt S13_g0 x hx) ((F14_0b.2 x hy).1))
 have G14:Below w.heap.size w w14:=G13.trans (L14.mono G13.size);have F14_0c:=F14_0b.mono (base':=w.heap.size) (G13.size);have S14_w0:=S13_w0.below L14;have F14_w0:=F13_w0.below (R.lt S13_w0) L14;have S14_g0:=S13_g0.below L14;have F14_g0:=F13_g0.below (R.lt S13_g0) L14;clear G13 F14_0 F14_0b S13_w0 F13_w0 S13_g0 F13_g0 L14 hb14
 go_wp2_with fail
 refine(iR (lY l0 n1 n2 n3) _ _ _ _ _ (S14_0) (S14_w0)).mono ?_;rintro e w15 ⟨rfl,hb15⟩;have L15:Below w14.heap.size w14 w15:=hb15;have G15:Below w.heap.size w w15:=G14.trans (L15.mono G14.size);have S15_w0:=S14_w0.below L15;have F15_w0:=F14_w0.below (R.lt S14_w0) L15;have S15_g0:=S14_g0.below L15;have F15_g0:=F14_g0.below (R.lt S14_g0) L15;have S15_h0:=S14_0.below L15;have F15_h0:=F14_0c.below (R.lt S14_0) L15;clear G14 S14_w0 F14_w0 S14_g0 F14_g0 S14_0 F14_0c L15 hb15
 go_wp2_with fail
 refine(ql (lY l0 n1 n2 n3) _ _ _ _ (S15_g0) (by omega) (by omega)).mono ?_;rintro e w16 ⟨rfl,hb16⟩;have L16:Below w15.heap.size w15 w16:=hb16;have G16:Below w.heap.size w w16:=G15.trans (L16.mono G15.size);have S16_g0:=S15_g0.below L16;have F16_g0:=F15_g0.below (R.lt S15_g0) L16;clear G15 S15_g0 F15_g0 L16 hb16
 go_wp2_with fail
 go_ret
 exact⟨rfl,G16⟩
open Go.ChangeShapes Go.WideShapes Go.ChangeAt
theorem pR(os:Os)(started:os.Started)(H:Type)(enc:TypeId×Value→H):
 ReturnsInHanded {} Try.checked os 6 .any (Rows.fnExactCopyTapeSpec.pre6 enc Try.prog Try.f6 Rows.fnExactCopyTapeRow.domain false) (Rows.fnExactCopyTapeSpec.post enc Try.prog Try.f6 false true false false):=by
 refine returnsInHanded_of_change (C:=Try.checked) Us started (by kernel_rfl) Try.func6
  (ChangeSpec.witness6 (enc:=enc) (C:=Try.checked) false ⟨#[], #[.slice none 0 0,.int .i64 0,.int .i64 0,.int .i64 0],[]⟩ 8 (by kernel_rfl) (by kernel_rfl) (by kernel_rfl) (by kernel_rfl)) ?_
 intro W base args ds gs before hval0 hW hcnd _;have hval:∀(j:Nat) t v,Try.f6.params[j]? =some t→args[j]? =some v→Value.okWide Try.prog W .any base t v:=hval0;have hW':=hW;obtain⟨p,q,hA0,hV,rfl,hfz,hnd⟩:=hW;have hA:DataW.TrodAll enc Try.prog W 0 (fun _=>true) true Try.f6.params.toList args.toList ds p:=hA0;rw[Try.params6]at hA hval;obtain⟨v0,vs0,d0,ds0,p0,q0,ha0,rfl,rfl,h0,r0⟩:=trodAll_cons hA;obtain⟨v1,vs1,d1,ds1,p1,q1,ha1,rfl,rfl,h1,r1⟩:=trodAll_cons r0;obtain⟨v2,vs2,d2,ds2,p2,q2,ha2,rfl,rfl,h2,r2⟩:=trodAll_cons r1;obtain⟨v3,vs3,d3,ds3,p3,q3,ha3,rfl,rfl,h3,r3⟩:=trodAll_cons r2;obtain⟨rfl,rfl,rfl⟩:=trodAll_nil r3;subst ha3;subst ha2;subst ha1;obtain rfl:args= #[v0,v1,v2,v3]:=by cases args;simp_all
 obtain⟨rfl,rfl⟩:=trodVars_none hV;obtain⟨x0,fx0,hx0,wx0⟩:=xM Try.underlying22 (hval 0 22 v0 rfl rfl) (fun n=>CZ n) h0;obtain⟨x1,rfl,hx1⟩:=vT Try.underlying3 (hval 1 3 v1 rfl rfl) h1;obtain⟨x2,rfl,hx2⟩:=vT Try.underlying3 (hval 2 3 v2 rfl rfl) h2;obtain⟨x3,rfl,hx3⟩:=vT Try.underlying3 (hval 3 3 v3 rfl rfl) h3;clear hA0 hval0;have hlt:∀z∈p0++(p1++(p2++(p3++ []))),z.block<W.heap.size:=fun z hz=>hW'.lt z (by simpa using hz)
 refine(su x0 fx0 _ x1 x2 x3 W hx0 wx0 hx1 hx2 hx3).mono fun e W' ⟨he,hb⟩=> ?_
 subst he;exact⟨_,rfl,sH (pa:=p0++(p1++(p2++(p3++ [])))) (pv:= []) hW' (fun _ _ _=>trodAll_mk1 (shut_bool Try.underlying4 _))
  (fun sp hsp=>⟨_,_,d_ lW (by kernel_rfl) (of_decide_eq_true (by kernel_rfl)) h0 (fun z hz=>hb.same (hlt z (e_ _ hz))) (fun z hz=>hsp z (by simp[hz])),⟨_,_,d_ lW (by kernel_rfl) (of_decide_eq_true (by kernel_rfl)) h1 (fun z hz=>hb.same (hlt z (c_ _ (e_ _ hz)))) (fun z hz=>hsp z (by simp[hz])),⟨_,_,d_ lW (by kernel_rfl) (of_decide_eq_true (by kernel_rfl)) h2 (fun z hz=>hb.same (hlt z (c_ _ (c_ _ (e_ _ hz))))) (fun z hz=>hsp z (by simp[hz])),⟨_,_,d_ lW (by kernel_rfl) (of_decide_eq_true (by kernel_rfl)) h3 (fun z hz=>hb.same (hlt z (c_ _ (c_ _ (c_ _ (e_ _ hz)))))) (fun z hz=>hsp z (by simp[hz])),rfl,rfl⟩,rfl⟩,rfl⟩,rfl⟩) (fun _ _=>rfl) (by simp) hb (ok_one (by kernel_rfl) rfl (okWide_bool_mk Try.underlying4 _))⟩
theorem proved_FnExactCopyTape :Rows.FnExactCopyTapeSaid:=
 OpenClaim.holds_of_wide 6 Try.f6 rfl rfl rfl rfl rfl rfl rfl ⟨rfl,rfl,rfl,rfl,rfl⟩ rfl rfl rfl rfl rfl (by kernel_rfl) Try.func6 (by kernel_rfl)
  (of_decide_eq_true (by kernel_rfl)) (by unfold Func.isWrapper;first|(rw[if_pos (by decide+kernel)];kernel_rfl)|(rw[if_neg (by decide+kernel)];exact⟨rfl,rfl⟩))
  (fun os started H enc _=>pR os started H enc)
end Go.Proofs.Ytagaefgglphkgaa
