/-
  The program's ParseData returns what the reference's returns, for all arguments. No condition.
-/
import Derived.Test.YtfengkmaphbofaaGreatDoorJA
import Derived.Test.YtfengkmaphbofaaGreatDoorJF
import Derived.Test.YtfengkmaphbofaaGreatDoorJG
import Derived.Test.YtfengkmaphbofaaGreatDoorJR
import Derived.Test.YtfengkmaphbofaaGreatDoorCards
import Derived.Test.YtfengkmaphbofaaGreatDoorTie
import Derived.Test.YtfengkmaphbofaaGreatDoorJS
import Derived.SevenTiedAt
import Derived.Stop.Joined
set_option maxHeartbeats 100000000
set_option maxRecDepth 100000
set_option linter.unusedSimpArgs false
set_option linter.unusedVariables false
namespace Go.Proofs.YtfengkmaphbofaaGreatDoor
open Go.RowKit
open Nat renaming le_refl→a_,lt_of_lt_of_le→c_,lt_irrefl→d_
open Below renaming refl→b_
theorem ru(s0:ByteArray)(w:World)(hx0:s0.size≤maxLen)(T0:kT w):
 Calls Tryz.prog 3 #[.string s0] w (kC w):=by
 have hsx0:s0.size≤9223372036854775807:=by unfold maxLen at hx0;omega
 go_enter Tryz.func3,Tryz.ntmps3
 go_wp2_with fail
 ·go_ret
  exact⟨rfl,(b_ _ _)⟩
 have hs0:s0.size≤1048576:=by omega
 have hcr:(GVal.toD (je s0)).acnt≤14680080:=by have:=Ez s0;omega
 refine(uz s0 hs0 _ (o9 T0 (b_ _ _))).mono ?_;rintro e w1 ⟨f1_0,vv1_0,rfl,S1_0,F1_0,hb1⟩;obtain⟨u_w00,u_w01,u_w02,g_w00,g_w01,g_w02,hqf,rfl,hU_w00,hU_w01,hU_w02⟩:=GVal.opened.1 S1_0;clear hqf;obtain⟨A_w00,d_w00,rfl,hqa,hqb⟩:=hU_w00.fK;clear hqa hqb hU_w00;obtain⟨A_w01,d_w01,rfl,hqa,hqb⟩:=hU_w01.fK;clear hqa hqb hU_w01;obtain⟨A_w02,d_w02,rfl,hqa,hqb⟩:=hU_w02.fK;clear hqa hqb hU_w02;have L1:Below w.heap.size w w1:=hb1;have F1_0b:=F1_0.mono (base':=w.heap.size) (a_ _);have G1:Below w.heap.size w w1:=L1;have F1_0c:=F1_0b.mono (base':=w.heap.size) (a_ _);clear F1_0 F1_0b L1 hb1;have nb_0_w0:w1.heap.size∉f1_0:=fun hy=>by have:=R.lt S1_0 _ hy;omega
 go_wp2_with fail
 refine(nU s0 hs0 _ (o9 T0 (G1.alloc (by have:=G1.size;simp;omega) _))).mono ?_;rintro e w2 ⟨f2_0,vv2_0,rfl,S2_0,F2_0,hb2⟩;obtain⟨u_g00,u_g01,u_g02,g_g00,g_g01,g_g02,hqf,rfl,hU_g00,hU_g01,hU_g02⟩:=GVal.opened.1 S2_0;clear hqf;obtain⟨A_g00,d_g00,rfl,hqa,hqb⟩:=hU_g00.fK;clear hqa hqb hU_g00;obtain⟨A_g01,d_g01,rfl,hqa,hqb⟩:=hU_g01.fK;clear hqa hqb hU_g01;obtain⟨A_g02,d_g02,rfl,hqa,hqb⟩:=hU_g02.fK;clear hqa hqb hU_g02;obtain⟨rw2_0,hz2,L2⟩:=J4 hb2;have F2_0b:=F2_0.mono (base':=w1.heap.size) (by simp;try omega);have D_w0_g0:∀x∈f1_0,x∉f2_0:=fun x hx hy=>d_ _ (c_ (R.lt S1_0 x hx) ((F2_0b.2 x hy).1))
 have nb_0_g0:w1.heap.size∉f2_0:=fun hy=>by have:=(F2_0.2 _ hy).1;simp at this;try omega
 have G2:Below w.heap.size w w2:=G1.trans (L2.mono G1.size);have F2_0c:=F2_0b.mono (base':=w.heap.size) (G1.size);have S2_w0:=S1_0.below L2;have F2_w0:=F1_0c.below (R.lt S1_0) L2;have kc2_0:=rw2_0.cell;have kj2_0:=fun o=>(rw2_0.below ((b_ w2.heap.size w2).alloc (a_ _) o)).cell
 clear G1 F2_0 F2_0b S1_0 F1_0c L2 hb2 hz2;have nb_1_w0:w2.heap.size∉f1_0:=fun hy=>by have:=R.lt S2_w0 _ hy;omega
 have nb_1_g0:w2.heap.size∉f2_0:=fun hy=>by have:=R.lt S2_0 _ hy;omega
 go_wp2_with fail
 refine(GVal.uN ((je s0)) _ _ _ _ _ (S2_0.below ((b_ _ _).alloc (a_ _) _)) (S2_w0.below ((b_ _ _).alloc (a_ _) _))).mono ?_;rintro e w3 ⟨rfl,hb3⟩;obtain⟨rw3_0,hz3,L3⟩:=J4 hb3;have rr3_0:=rw2_0.below L3;have G3:Below w.heap.size w w3:=G2.trans (L3.mono G2.size);have S3_w0:=S2_w0.below L3;have F3_w0:=F2_w0.below (R.lt S2_w0) L3;have S3_g0:=S2_0.below L3;have F3_g0:=F2_0c.below (R.lt S2_0) L3;have kc3_0:=rr3_0.cell;have kc3_1:=rw3_0.cell;clear rw2_0 G2 S2_w0 F2_w0 S2_0 F2_0c kc2_0 kj2_0 L3 hb3 hz3
 go_wp2_with fail
 refine(GVal.mark ((je s0)) _ _ _ _ (S3_g0) (F3_g0.mono (Nat.zero_le _)) (by omega) (by omega)).mono ?_;rintro e w4 ⟨rfl,SM4,hb4⟩;have rr4_0:=rr3_0.touch hb4 nb_0_g0;have rr4_1:=rw3_0.touch hb4 nb_1_g0;have G4:Below w.heap.size w w4:=Touch.toBelow G3 hb4 (fun x hx=>(F3_g0.2 x hx).1) G3.size;have S4_w0:=S3_w0.touch hb4 D_w0_g0;have F4_w0:=F3_w0.touch (R.lt S3_w0) hb4;have F4_g0:=F3_g0.touch (R.lt S3_g0) hb4;have kc4_0:=rr4_0.cell;have kc4_1:=rr4_1.cell;clear rr3_0 rw3_0 G3 S3_w0 F3_w0 S3_g0 F3_g0 kc3_0 kc3_1 hb4
 go_wp2_with fail
 refine(GVal.held ((je s0)) _ _ _ _ (SM4) (by omega) (by omega)).mono ?_;rintro e w5 ⟨rfl,hb5⟩;have L5:Below w4.heap.size w4 w5:=hb5;have rr5_0:=rr4_0.below L5;have rr5_1:=rr4_1.below L5;have G5:Below w.heap.size w w5:=G4.trans (L5.mono G4.size);have S5_w0:=S4_w0.below L5;have F5_w0:=F4_w0.below (R.lt S4_w0) L5;have S5_g0:=SM4.below L5;have F5_g0:=F4_g0.below (R.lt SM4) L5;have kc5_0:=rr5_0.cell;have kc5_1:=rr5_1.cell;clear rr4_0 rr4_1 G4 S4_w0 F4_w0 SM4 F4_g0 kc4_0 kc4_1 L5 hb5
 go_wp2_with fail
 refine(nU s0 hs0 _ (o9 T0 G5)).mono ?_;rintro e w6 ⟨f6_0,vv6_0,rfl,S6_0,F6_0,hb6⟩;obtain⟨u_h00,u_h01,u_h02,g_h00,g_h01,g_h02,hqf,rfl,hU_h00,hU_h01,hU_h02⟩:=GVal.opened.1 S6_0;clear hqf;obtain⟨A_h00,d_h00,rfl,hqa,hqb⟩:=hU_h00.fK;clear hqa hqb hU_h00;obtain⟨A_h01,d_h01,rfl,hqa,hqb⟩:=hU_h01.fK;clear hqa hqb hU_h01;obtain⟨A_h02,d_h02,rfl,hqa,hqb⟩:=hU_h02.fK;clear hqa hqb hU_h02;have L6:Below w5.heap.size w5 w6:=hb6;have rr6_0:=rr5_0.below L6;have rr6_1:=rr5_1.below L6;have F6_0b:=F6_0.mono (base':=w5.heap.size) (a_ _);have D_w0_h0:∀x∈f1_0,x∉f6_0:=fun x hx hy=>d_ _ (c_ (R.lt S5_w0 x hx) ((F6_0b.2 x hy).1))
 have D_g0_h0:∀x∈f2_0,x∉f6_0:=fun x hx hy=>d_ _ (c_ (R.lt S5_g0 x hx) ((F6_0b.2 x hy).1))
 have nb_0_h0:w1.heap.size∉f6_0:=fun hy=>d_ _ (c_ rr5_0.lt ((F6_0b.2 _ hy).1))
 have nb_1_h0:w2.heap.size∉f6_0:=fun hy=>d_ _ (c_ rr5_1.lt ((F6_0b.2 _ hy).1))
 have G6:Below w.heap.size w w6:=G5.trans (L6.mono G5.size);have F6_0c:=F6_0b.mono (base':=w.heap.size) (G5.size);have S6_w0:=S5_w0.below L6;have F6_w0:=F5_w0.below (R.lt S5_w0) L6;have S6_g0:=S5_g0.below L6;have F6_g0:=F5_g0.below (R.lt S5_g0) L6;have kc6_0:=rr6_0.cell;have kj6_0:=fun o=>(rr6_0.below ((b_ w6.heap.size w6).alloc (a_ _) o)).cell
 have kc6_1:=rr6_1.cell;have kj6_1:=fun o=>(rr6_1.below ((b_ w6.heap.size w6).alloc (a_ _) o)).cell
 clear rr5_0 rr5_1 G5 F6_0 F6_0b S5_w0 F5_w0 S5_g0 F5_g0 kc5_0 kc5_1 L6 hb6;have nb_2_w0:w6.heap.size∉f1_0:=fun hy=>by have:=R.lt S6_w0 _ hy;omega
 have nb_2_g0:w6.heap.size∉f2_0:=fun hy=>by have:=R.lt S6_g0 _ hy;omega
 have nb_2_h0:w6.heap.size∉f6_0:=fun hy=>by have:=R.lt S6_0 _ hy;omega
 go_wp2_with fail
 refine(GVal.uN ((je s0)) _ _ _ _ _ (S6_0.below ((b_ _ _).alloc (a_ _) _)) (S6_w0.below ((b_ _ _).alloc (a_ _) _))).mono ?_;rintro e w7 ⟨rfl,hb7⟩;obtain⟨rw7_0,hz7,L7⟩:=J4 hb7;have rr7_0:=rr6_0.below L7;have rr7_1:=rr6_1.below L7;have G7:Below w.heap.size w w7:=G6.trans (L7.mono G6.size);have S7_w0:=S6_w0.below L7;have F7_w0:=F6_w0.below (R.lt S6_w0) L7;have S7_g0:=S6_g0.below L7;have F7_g0:=F6_g0.below (R.lt S6_g0) L7;have S7_h0:=S6_0.below L7;have F7_h0:=F6_0c.below (R.lt S6_0) L7;have kc7_0:=rr7_0.cell;have kc7_1:=rr7_1.cell;have kc7_2:=rw7_0.cell;clear rr6_0 rr6_1 G6 S6_w0 F6_w0 S6_g0 F6_g0 S6_0 F6_0c kc6_0 kj6_0 kc6_1 kj6_1 L7 hb7 hz7
 go_wp2_with fail
 refine(GVal.held ((je s0)) _ _ _ _ (S7_g0) (by omega) (by omega)).mono ?_;rintro e w8 ⟨rfl,hb8⟩;have L8:Below w7.heap.size w7 w8:=hb8;have rr8_0:=rr7_0.below L8;have rr8_1:=rr7_1.below L8;have rr8_2:=rw7_0.below L8;have G8:Below w.heap.size w w8:=G7.trans (L8.mono G7.size);have S8_g0:=S7_g0.below L8;have F8_g0:=F7_g0.below (R.lt S7_g0) L8;have kc8_0:=rr8_0.cell;have kc8_1:=rr8_1.cell;have kc8_2:=rr8_2.cell;clear rr7_0 rr7_1 rw7_0 G7 S7_g0 F7_g0 kc7_0 kc7_1 kc7_2 L8 hb8
 go_wp2_with fail
 go_ret
 exact⟨rfl,G8⟩
open Go.ChangeShapes Go.WideShapes Go.ChangeAt
theorem pR(os:Os)(started:os.Started)(H:Type)(enc:TypeId×Value→H):
 ReturnsInHanded {} Tryz.checked os 3 .any (fun w args=>(Rows.fnExactParseDataSpec.pre enc Tryz.prog Tryz.f3 [] false w args∧laidMetH Tryz.prog oN w)∧sizedMet enc Tryz.prog Tryz.f3 (OpenSpec.ofChange Rows.fnExactParseDataSpec) false w args) (Rows.fnExactParseDataSpec.post enc Tryz.prog Tryz.f3 false true false false):=by
 refine qX (C:=Tryz.checked) (X:=fun w _=>laidMetH Tryz.prog oN w) (fun _ _ _ hh h=>h.of_heap hh) U2 started (by kernel_rfl) Tryz.func3
  (ChangeSpec.witness_shaped (enc:=enc) (C:=Tryz.checked) (os:=os) (X:=fun w _=>laidMetH Tryz.prog oN w) false (World.laidAll Tryz.prog os oN) #[.string .empty] 8 (World.laidAll_os _ _ _) (Il os _) (by kernel_rfl) (by kernel_rfl) (by kernel_rfl) (QE os _)) ?_
 intro W base args ds gs before hval0 hW hcnd _ hL hSh _;have T0:kT W:=FZ hL hSh;have hval:∀(j:Nat) t v,Tryz.f3.params[j]? =some t→args[j]? =some v→Value.okWide Tryz.prog W .any base t v:=hval0;have hW':=hW;obtain⟨p,q,hA0,hV,rfl,hfz,hnd⟩:=hW;have hA:DataW.TrodAll enc Tryz.prog W 0 (fun _=>true) true Tryz.f3.params.toList args.toList ds p:=hA0;rw[Tryz.params3]at hA hval;obtain⟨v0,vs0,d0,ds0,p0,q0,ha0,rfl,rfl,h0,r0⟩:=trodAll_cons hA;obtain⟨rfl,rfl,rfl⟩:=trodAll_nil r0;obtain rfl:args= #[v0]:=by cases args;simp_all
 obtain⟨rfl,rfl⟩:=trodVars_none hV;obtain⟨x0,rfl,hx0⟩:=SG Tryz.underlying9 (hval 0 9 v0 rfl rfl) h0;clear hA0 hval0;have hlt:∀z∈p0++ [],z.block<W.heap.size:=fun z hz=>hW'.lt z (by simpa using hz)
 refine(ru x0 W hx0 T0).mono fun e W' ⟨he,hb⟩=> ?_
 subst he;exact⟨_,rfl,CV (pa:=p0++ []) (pv:= []) hW' (fun _ _ _=>trodAll_mk1 (shut_bool Tryz.underlying4 _))
  (fun sp hsp=>⟨_,_,WideElems.Trod_stays PS (by kernel_rfl) (of_decide_eq_true (by kernel_rfl)) h0 (fun z hz=>hb.same (hlt z (List.mem_append_left _ hz))) (fun z hz=>hsp z (by simp[hz])),rfl,rfl⟩) (fun _ _=>rfl) (by simp) hb (ok_one (by kernel_rfl) rfl (okWide_bool_mk Tryz.underlying4 _))⟩
theorem qL :Rows.FnExactParseDataSaid:=
 OpenClaim.holds_of_wide 3 Tryz.f3 rfl rfl rfl rfl rfl rfl rfl ⟨rfl,rfl,rfl,rfl,rfl⟩ rfl rfl rfl rfl rfl (by kernel_rfl) Tryz.func3 (by kernel_rfl)
  (of_decide_eq_true (by kernel_rfl)) (by unfold Func.isWrapper;first|(rw[if_pos (by decide+kernel)];kernel_rfl)|(rw[if_neg (by decide+kernel)];exact⟨rfl,rfl⟩))
  (fun os started H enc _=>pR os started H enc)
theorem proved_FnExactParseData :Rows.FnExactParseDataCardSaid:=
 Claim7.holds_tied_plain_at .later [] [.data,.data,.data,.data,.sentinel,.sentinel,.pinned] true (true,"e78a4b4e67c6704362e4f3a185ca6f3943b2db777efacbbedc33edef7bb96615") true
  qL (fun _ h=>by cases h) (by kernel_rfl) (fun _ h=>by cases h) fnExactParseData_row_tie rfl ⟨rfl,rfl⟩ (by kernel_rfl) rfl
  (fun f fn hf hfn=>by
    obtain rfl:f=3:=Option.some.inj ((show Tryz.prog.funcNamed "loop.example/g00510/laws.FnExactParseData" =some 3 by kernel_rfl).symm.trans hf)|>.symm
    obtain rfl:fn=Tryz.f3:=(Option.some.inj (Tryz.func3.symm.trans hfn)).symm;exact⟨by kernel_rfl,fun j t ht=>by
     rw[Tryz.params3]at ht;have hm:t∈[9]:=by simpa using Array.mem_of_getElem? ht
     have hall:([9].all fun u=> !Tryz.prog.wantsStandIn u)=true:=by kernel_rfl
     exact(show Tryz.prog.wantsStandIn t=false by simpa using List.all_eq_true.1 hall t hm)⟩)
  (by kernel_rfl)
end Go.Proofs.YtfengkmaphbofaaGreatDoor
