/-
  Texts joined: Sz To Eq.
-/
import Derived.Test.YtfengkmaphbofaaGreatDoorJA
import Derived.Test.YtfengkmaphbofaaGreatDoorProg
import Derived.KernelRfl
set_option maxHeartbeats 2000000
set_option linter.unusedSimpArgs false
set_option linter.unusedVariables false
namespace Go.Proofs.YtfengkmaphbofaaGreatDoor
open Go.RowKit
open List renaming getElem?_eq_getElem→a_,getElem?_map→d_,getElem_mem→e_
open Below renaming refl→b_
open Nat renaming lt_of_lt_of_le→c_,le_trans→f_
theorem CQ(l:List Int):jS Tryz.prog 120 (l.map li):=by
 intro w f1 f2 v1 v2 hS1 hS2;obtain⟨A,c,rfl,hl,hc⟩:=hS1.fK;obtain⟨A',c',rfl,hl',hc'⟩:=hS2.fK;have hm:l.length≤9223372036854775807:=by unfold maxLen at hc;omega
 clear hl hc hl' hc'
 go_enter Tryz.func120,Tryz.ntmps120
 go_wp2_with fail
 go_loopw [5] (fun iv wr=>∃(k:Nat),k≤l.length∧iv= .int .i64 k∧Below w.heap.size w wr) (fun iv _=>l.length - (intOf iv).toNat)
 case atStart=>exact⟨0,by omega,rfl,b_ _ _⟩
 case round=>
  obtain⟨k,hk,rfl,hb⟩:=hrel;by_cases hlt:k<l.length
  ·have hd:(l.map li)[k]? =some (li l[k]):=by rw[d_,a_ hlt];rfl
   obtain⟨b1,o1,fi1,ci1,rfl,hbb1,hbf1,hri1,hfi1,hat1⟩:=hS1.elem EJ hd;obtain⟨b2,o2,fi2,ci2,rfl,hbb2,hbf2,hri2,hfi2,hat2⟩:=hS2.elem EJ hd;have hi1:0≤(k:Int):=by omega
   have hi2:(k:Int)<l.length:=by omega
   have hri1':=hri1;have hri2':=hri2;obtain⟨rfl,rfl⟩:=hri1;have q10:wr.cell? ⟨b1,o1+k,none⟩=some (.int .i64 l[k]):=(hb.cell (p:=⟨b1,o1+k,none⟩) hbb1).trans (by simpa using hat1.head);obtain⟨rfl,rfl⟩:=hri2;have q20:wr.cell? ⟨b2,o2+k,none⟩=some (.int .i64 l[k]):=(hb.cell (p:=⟨b2,o2+k,none⟩) hbb2).trans (by simpa using hat2.head);clear hat1 hat2 hd
   go_wp2_with fail
   go_quiet (fail)
   go_wp2_with fail
   go_roundw
   case rel=>exact⟨k+1,by omega,by go_num,rW hb _⟩
   case measure=>simp[intOf];omega
  ·go_wp2_with fail
   go_ret
   exact⟨rfl,hb⟩
theorem I5(l:List Int):jS Tryz.prog 120 (l.map li):=CQ l
theorem wz(l:List ByteArray):jS Tryz.prog 40 (l.map ls):=by
 intro w f1 f2 v1 v2 hS1 hS2;obtain⟨A,c,rfl,hl,hc⟩:=hS1.fK;obtain⟨A',c',rfl,hl',hc'⟩:=hS2.fK;have hm:l.length≤9223372036854775807:=by unfold maxLen at hc;omega
 clear hl hc hl' hc'
 go_enter Tryz.func40,Tryz.ntmps40
 go_wp2_with fail
 go_loopw [5] (fun iv wr=>∃(k:Nat),k≤l.length∧iv= .int .i64 k∧Below w.heap.size w wr) (fun iv _=>l.length - (intOf iv).toNat)
 case atStart=>exact⟨0,by omega,rfl,b_ _ _⟩
 case round=>
  obtain⟨k,hk,rfl,hb⟩:=hrel;by_cases hlt:k<l.length
  ·have hd:(l.map ls)[k]? =some (ls l[k]):=by rw[d_,a_ hlt];rfl
   obtain⟨b1,o1,fi1,ci1,rfl,hbb1,hbf1,hri1,hfi1,hat1⟩:=hS1.elem uI hd;obtain⟨b2,o2,fi2,ci2,rfl,hbb2,hbf2,hri2,hfi2,hat2⟩:=hS2.elem uI hd;have hi1:0≤(k:Int):=by omega
   have hi2:(k:Int)<l.length:=by omega
   have hri1':=hri1;have hri2':=hri2;obtain⟨rfl,rfl⟩:=hri1;have q10:wr.cell? ⟨b1,o1+k,none⟩=some (.string l[k]):=(hb.cell (p:=⟨b1,o1+k,none⟩) hbb1).trans (by simpa using hat1.head);obtain⟨rfl,rfl⟩:=hri2;have q20:wr.cell? ⟨b2,o2+k,none⟩=some (.string l[k]):=(hb.cell (p:=⟨b2,o2+k,none⟩) hbb2).trans (by simpa using hat2.head);clear hat1 hat2 hd
   go_wp2_with fail
   go_quiet (fail)
   go_wp2_with fail
   go_roundw
   case rel=>exact⟨k+1,by omega,by go_num,rW hb _⟩
   case measure=>simp[intOf];omega
  ·go_wp2_with fail
   go_ret
   exact⟨rfl,hb⟩
theorem Cc(l:List ByteArray):jS Tryz.prog 40 (l.map ls):=wz l
theorem GOrigin.pV(x:GOrigin):qH Tryz.prog 146 x.toD:=by
 intro w f1 f2 cs1 cs2 hR hR2;obtain⟨rfl,rfl⟩:=GOrigin.opened.1 hR;clear hR;obtain⟨rfl,rfl⟩:=GOrigin.opened.1 hR2;clear hR2
 go_enter Tryz.func146,Tryz.ntmps146
 go_wp2_with fail
 go_ret
 exact⟨rfl,((b_ _ _).alloc (Nat.le_refl _) _).alloc (by simp) _⟩
theorem wE(l:List GOrigin)(hE:∀x∈l,qH Tryz.prog 146 x.toD):jS Tryz.prog 121 (l.map GOrigin.toD):=by
 intro w f1 f2 v1 v2 hS1 hS2;obtain⟨A,c,rfl,hl,hc⟩:=hS1.fK;obtain⟨A',c',rfl,hl',hc'⟩:=hS2.fK;have hm:l.length≤9223372036854775807:=by unfold maxLen at hc;omega
 clear hl hc hl' hc'
 go_enter Tryz.func121,Tryz.ntmps121
 go_wp2_with fail
 go_loopw [5] (fun iv wr=>∃(k:Nat),k≤l.length∧iv= .int .i64 k∧Below w.heap.size w wr) (fun iv _=>l.length - (intOf iv).toNat)
 case atStart=>exact⟨0,by omega,rfl,b_ _ _⟩
 case round=>
  obtain⟨k,hk,rfl,hb⟩:=hrel;by_cases hlt:k<l.length
  ·have hd:(l.map GOrigin.toD)[k]? =some (GOrigin.toD l[k]):=by rw[d_,a_ hlt];rfl
   obtain⟨b1,o1,fi1,ci1,rfl,hbb1,hbf1,hri1,hfi1,hat1⟩:=hS1.elem GOrigin.szs hd;obtain⟨b2,o2,fi2,ci2,rfl,hbb2,hbf2,hri2,hfi2,hat2⟩:=hS2.elem GOrigin.szs hd;have hi1:0≤(k:Int):=by omega
   have hi2:(k:Int)<l.length:=by omega
   have hri1':=hri1;have hri2':=hri2;obtain⟨rfl,rfl⟩:=GOrigin.opened.1 hri1;have q10:wr.cell? ⟨b1,o1+k*2,none⟩=some (.int .i64 l[k].cell):=(hb.cell (p:=⟨b1,o1+k*2,none⟩) hbb1).trans (hat1.head);have q11:wr.cell? ⟨b1,o1+k*2+1,none⟩=some (.int .i64 l[k].row):=(hb.cell (p:=⟨b1,o1+k*2+1,none⟩) hbb1).trans (hat1.nth 1 rfl);obtain⟨rfl,rfl⟩:=GOrigin.opened.1 hri2;have q20:wr.cell? ⟨b2,o2+k*2,none⟩=some (.int .i64 l[k].cell):=(hb.cell (p:=⟨b2,o2+k*2,none⟩) hbb2).trans (hat2.head);have q21:wr.cell? ⟨b2,o2+k*2+1,none⟩=some (.int .i64 l[k].row):=(hb.cell (p:=⟨b2,o2+k*2+1,none⟩) hbb2).trans (hat2.nth 1 rfl);clear hat1 hat2 hd hri1 hri2;have hbr1:b1<wr.heap.size:=c_ hbb1 hb.size;have hbr2:b2<wr.heap.size:=c_ hbb2 hb.size;have hP:∀wx:World,Below wr.heap.size wr wx→Calls Tryz.prog 146 _ wx (kC wx):=fun wx hwx=>hE _ (e_ hlt) wx _ _ _ _ ((hri1'.same (fun x hx=>hb.block x (hS1.lt x (hfi1 x hx))) hb.size).below hwx) ((hri2'.same (fun x hx=>hb.block x (hS2.lt x (hfi2 x hx))) hb.size).below hwx)
   clear hri1' hri2' hE
   go_wp2_with fail
   go_region_held3 (fun w'=>w'.cell? ⟨b1,o1+k*2,none⟩=some (.int .i64 l[k].cell)∧w'.cell? ⟨b1,o1+k*2+1,none⟩=some (.int .i64 l[k].row)∧w'.cell? ⟨b2,o2+k*2,none⟩=some (.int .i64 l[k].cell)∧w'.cell? ⟨b2,o2+k*2+1,none⟩=some (.int .i64 l[k].row)) (go_keep)
    ((go_at_call 146;refine(hP _ ?_).mono ?_;(exact(b_ _ _).drew);rintro e w1 ⟨rfl,hb1⟩;have hc1:∀o,w1.cell? ⟨b1,o,none⟩=wr.cell? ⟨b1,o,none⟩:=fun o=>hb1.cell (p:=⟨b1,o,none⟩) hbr1;have hc2:∀o,w1.cell? ⟨b2,o,none⟩=wr.cell? ⟨b2,o,none⟩:=fun o=>hb1.cell (p:=⟨b2,o,none⟩) hbr2))
   go_wp2_with fail
   go_roundw
   case rel=>exact⟨k+1,by omega,by go_num,hb.drew.trans (hb1.mono hb.size)⟩
   case measure=>simp[intOf];omega
  ·go_wp2_with fail
   go_ret
   exact⟨rfl,hb⟩
theorem GOrigin.uN(x:GOrigin):qH Tryz.prog 146 x.toD:=GOrigin.pV x
theorem CB(l:List GOrigin):jS Tryz.prog 121 (l.map GOrigin.toD):=wE l fun x _=>x.uN
theorem GRow.pV(x:GRow)(hE0:jS Tryz.prog 120 (x.cells.map li))(hE1:jS Tryz.prog 121 (x.src.map GOrigin.toD)):qH Tryz.prog 84 x.toD:=by
 intro w f1 f2 cs1 cs2 hR hR2;obtain⟨vA0,vA1,fA0,fA1,rfl,rfl,hSA0,hSA1⟩:=GRow.opened.1 hR;obtain⟨A0,cA0,rfl,hqa,hqb⟩:=hSA0.fK;clear hqa hqb;obtain⟨A1,cA1,rfl,hqa,hqb⟩:=hSA1.fK;clear hqa hqb;clear hR;obtain⟨vB0,vB1,fB0,fB1,rfl,rfl,hSB0,hSB1⟩:=GRow.opened.1 hR2;obtain⟨B0,cB0,rfl,hqa,hqb⟩:=hSB0.fK;clear hqa hqb;obtain⟨B1,cB1,rfl,hqa,hqb⟩:=hSB1.fK;clear hqa hqb;clear hR2
 go_enter Tryz.func84,Tryz.ntmps84
 go_wp2_with fail
 have hP0:∀wx:World,Below w.heap.size w wx→Calls Tryz.prog 120 _ wx (kC wx):=fun wx hwx=>hE0 wx _ _ _ _ (hSA0.below hwx) (hSB0.below hwx)
 refine(hP0 _ ?_).mono ?_
 ·exact((b_ _ _).alloc (by simp) _).alloc (by simp;try omega) _
 rintro e w1 ⟨rfl,hb1⟩;obtain⟨hr10,hr11,hz1,G1⟩:=Tn hb1;clear hb1;have k10:=hr10.cell;have k11:=hr11.cell
 go_wp2_with fail
 have hP1:∀wx:World,Below w.heap.size w wx→Calls Tryz.prog 121 _ wx (kC wx):=fun wx hwx=>hE1 wx _ _ _ _ (hSA1.below hwx) (hSB1.below hwx)
 refine(hP1 _ ?_).mono ?_
 ·exact G1
 rintro e w2 ⟨rfl,hb2⟩;have hr20:=hr10.below hb2;have hr21:=hr11.below hb2;have hz2:w.heap.size+2≤w2.heap.size:=f_ hz1 hb2.size;have G2:Below w.heap.size w w2:=G1.trans (hb2.mono (by omega));clear hb2;have k20:=hr20.cell;have k21:=hr21.cell
 go_wp2_with fail
 go_ret
 exact⟨rfl,G2⟩
theorem Ci(l:List GRow)(hE:∀x∈l,qH Tryz.prog 84 x.toD):jS Tryz.prog 41 (l.map GRow.toD):=by
 intro w f1 f2 v1 v2 hS1 hS2;obtain⟨A,c,rfl,hl,hc⟩:=hS1.fK;obtain⟨A',c',rfl,hl',hc'⟩:=hS2.fK;have hm:l.length≤9223372036854775807:=by unfold maxLen at hc;omega
 clear hl hc hl' hc'
 go_enter Tryz.func41,Tryz.ntmps41
 go_wp2_with fail
 go_loopw [5] (fun iv wr=>∃(k:Nat),k≤l.length∧iv= .int .i64 k∧Below w.heap.size w wr) (fun iv _=>l.length - (intOf iv).toNat)
 case atStart=>exact⟨0,by omega,rfl,b_ _ _⟩
 case round=>
  obtain⟨k,hk,rfl,hb⟩:=hrel;by_cases hlt:k<l.length
  ·have hd:(l.map GRow.toD)[k]? =some (GRow.toD l[k]):=by rw[d_,a_ hlt];rfl
   obtain⟨b1,o1,fi1,ci1,rfl,hbb1,hbf1,hri1,hfi1,hat1⟩:=hS1.elem GRow.szs hd;obtain⟨b2,o2,fi2,ci2,rfl,hbb2,hbf2,hri2,hfi2,hat2⟩:=hS2.elem GRow.szs hd;have hi1:0≤(k:Int):=by omega
   have hi2:(k:Int)<l.length:=by omega
   have hri1':=hri1;have hri2':=hri2;obtain⟨v10,v11,g10,g11,rfl,rfl,hV10,hV11⟩:=GRow.opened.1 hri1;obtain⟨A10,c10,rfl,hqa,hqb⟩:=hV10.fK;clear hqa hqb hV10;obtain⟨A11,c11,rfl,hqa,hqb⟩:=hV11.fK;clear hqa hqb hV11;have q10:wr.cell? ⟨b1,o1+k*2,none⟩=some (.slice A10 l[k].cells.length c10):=(hb.cell (p:=⟨b1,o1+k*2,none⟩) hbb1).trans (hat1.head);have q11:wr.cell? ⟨b1,o1+k*2+1,none⟩=some (.slice A11 l[k].src.length c11):=(hb.cell (p:=⟨b1,o1+k*2+1,none⟩) hbb1).trans (hat1.nth 1 rfl);obtain⟨v20,v21,g20,g21,rfl,rfl,hV20,hV21⟩:=GRow.opened.1 hri2;obtain⟨A20,c20,rfl,hqa,hqb⟩:=hV20.fK;clear hqa hqb hV20;obtain⟨A21,c21,rfl,hqa,hqb⟩:=hV21.fK;clear hqa hqb hV21;have q20:wr.cell? ⟨b2,o2+k*2,none⟩=some (.slice A20 l[k].cells.length c20):=(hb.cell (p:=⟨b2,o2+k*2,none⟩) hbb2).trans (hat2.head);have q21:wr.cell? ⟨b2,o2+k*2+1,none⟩=some (.slice A21 l[k].src.length c21):=(hb.cell (p:=⟨b2,o2+k*2+1,none⟩) hbb2).trans (hat2.nth 1 rfl);clear hat1 hat2 hd hri1 hri2;have hbr1:b1<wr.heap.size:=c_ hbb1 hb.size;have hbr2:b2<wr.heap.size:=c_ hbb2 hb.size;have hP:∀wx:World,Below wr.heap.size wr wx→Calls Tryz.prog 84 _ wx (kC wx):=fun wx hwx=>hE _ (e_ hlt) wx _ _ _ _ ((hri1'.same (fun x hx=>hb.block x (hS1.lt x (hfi1 x hx))) hb.size).below hwx) ((hri2'.same (fun x hx=>hb.block x (hS2.lt x (hfi2 x hx))) hb.size).below hwx)
   clear hri1' hri2' hE
   go_wp2_with fail
   go_region_held3 (fun w'=>w'.cell? ⟨b1,o1+k*2,none⟩=some (.slice A10 l[k].cells.length c10)∧w'.cell? ⟨b1,o1+k*2+1,none⟩=some (.slice A11 l[k].src.length c11)∧w'.cell? ⟨b2,o2+k*2,none⟩=some (.slice A20 l[k].cells.length c20)∧w'.cell? ⟨b2,o2+k*2+1,none⟩=some (.slice A21 l[k].src.length c21)) (go_keep)
    ((go_at_call 84;refine(hP _ ?_).mono ?_;(exact(b_ _ _).drew);rintro e w1 ⟨rfl,hb1⟩;have hc1:∀o,w1.cell? ⟨b1,o,none⟩=wr.cell? ⟨b1,o,none⟩:=fun o=>hb1.cell (p:=⟨b1,o,none⟩) hbr1;have hc2:∀o,w1.cell? ⟨b2,o,none⟩=wr.cell? ⟨b2,o,none⟩:=fun o=>hb1.cell (p:=⟨b2,o,none⟩) hbr2))
   go_wp2_with fail
   go_roundw
   case rel=>exact⟨k+1,by omega,by go_num,hb.drew.trans (hb1.mono hb.size)⟩
   case measure=>simp[intOf];omega
  ·go_wp2_with fail
   go_ret
   exact⟨rfl,hb⟩
theorem GRow.uN(x:GRow):qH Tryz.prog 84 x.toD:=GRow.pV x (I5 _) (CB _)
theorem IZ(l:List GRow):jS Tryz.prog 41 (l.map GRow.toD):=Ci l fun x _=>x.uN
theorem GVal.pV(x:GVal)(hE0:jS Tryz.prog 39 (x.list.map GVal.toD))(hE1:jS Tryz.prog 40 (x.cols.map ls))(hE2:jS Tryz.prog 41 (x.rows.map GRow.toD)):qH Tryz.prog 8 x.toD:=by
 intro w f1 f2 cs1 cs2 hR hR2;obtain⟨vA0,vA1,vA2,fA0,fA1,fA2,rfl,rfl,hSA0,hSA1,hSA2⟩:=GVal.opened.1 hR;obtain⟨A0,cA0,rfl,hqa,hqb⟩:=hSA0.fK;clear hqa hqb;obtain⟨A1,cA1,rfl,hqa,hqb⟩:=hSA1.fK;clear hqa hqb;obtain⟨A2,cA2,rfl,hqa,hqb⟩:=hSA2.fK;clear hqa hqb;clear hR;obtain⟨vB0,vB1,vB2,fB0,fB1,fB2,rfl,rfl,hSB0,hSB1,hSB2⟩:=GVal.opened.1 hR2;obtain⟨B0,cB0,rfl,hqa,hqb⟩:=hSB0.fK;clear hqa hqb;obtain⟨B1,cB1,rfl,hqa,hqb⟩:=hSB1.fK;clear hqa hqb;obtain⟨B2,cB2,rfl,hqa,hqb⟩:=hSB2.fK;clear hqa hqb;clear hR2
 go_enter Tryz.func8,Tryz.ntmps8
 go_wp2_with fail
 have hP0:∀wx:World,Below w.heap.size w wx→Calls Tryz.prog 39 _ wx (kC wx):=fun wx hwx=>hE0 wx _ _ _ _ (hSA0.below hwx) (hSB0.below hwx)
 refine(hP0 _ ?_).mono ?_
 ·exact((b_ _ _).alloc (by simp) _).alloc (by simp;try omega) _
 rintro e w1 ⟨rfl,hb1⟩;obtain⟨hr10,hr11,hz1,G1⟩:=Tn hb1;clear hb1;have k10:=hr10.cell;have k11:=hr11.cell
 go_wp2_with fail
 have hP1:∀wx:World,Below w.heap.size w wx→Calls Tryz.prog 40 _ wx (kC wx):=fun wx hwx=>hE1 wx _ _ _ _ (hSA1.below hwx) (hSB1.below hwx)
 refine(hP1 _ ?_).mono ?_
 ·exact G1
 rintro e w2 ⟨rfl,hb2⟩;have hr20:=hr10.below hb2;have hr21:=hr11.below hb2;have hz2:w.heap.size+2≤w2.heap.size:=f_ hz1 hb2.size;have G2:Below w.heap.size w w2:=G1.trans (hb2.mono (by omega));clear hb2;have k20:=hr20.cell;have k21:=hr21.cell
 go_wp2_with fail
 have hP2:∀wx:World,Below w.heap.size w wx→Calls Tryz.prog 41 _ wx (kC wx):=fun wx hwx=>hE2 wx _ _ _ _ (hSA2.below hwx) (hSB2.below hwx)
 refine(hP2 _ ?_).mono ?_
 ·exact G2
 rintro e w3 ⟨rfl,hb3⟩;have hr30:=hr20.below hb3;have hr31:=hr21.below hb3;have hz3:w.heap.size+2≤w3.heap.size:=f_ hz2 hb3.size;have G3:Below w.heap.size w w3:=G2.trans (hb3.mono (by omega));clear hb3;have k30:=hr30.cell;have k31:=hr31.cell
 go_wp2_with fail
 go_ret
 exact⟨rfl,G3⟩
theorem xH(l:List GVal)(hE:∀x∈l,qH Tryz.prog 8 x.toD):jS Tryz.prog 39 (l.map GVal.toD):=by
 intro w f1 f2 v1 v2 hS1 hS2;obtain⟨A,c,rfl,hl,hc⟩:=hS1.fK;obtain⟨A',c',rfl,hl',hc'⟩:=hS2.fK;have hm:l.length≤9223372036854775807:=by unfold maxLen at hc;omega
 clear hl hc hl' hc'
 go_enter Tryz.func39,Tryz.ntmps39
 go_wp2_with fail
 go_loopw [5] (fun iv wr=>∃(k:Nat),k≤l.length∧iv= .int .i64 k∧Below w.heap.size w wr) (fun iv _=>l.length - (intOf iv).toNat)
 case atStart=>exact⟨0,by omega,rfl,b_ _ _⟩
 case round=>
  obtain⟨k,hk,rfl,hb⟩:=hrel;by_cases hlt:k<l.length
  ·have hd:(l.map GVal.toD)[k]? =some (GVal.toD l[k]):=by rw[d_,a_ hlt];rfl
   obtain⟨b1,o1,fi1,ci1,rfl,hbb1,hbf1,hri1,hfi1,hat1⟩:=hS1.elem GVal.szs hd;obtain⟨b2,o2,fi2,ci2,rfl,hbb2,hbf2,hri2,hfi2,hat2⟩:=hS2.elem GVal.szs hd;have hi1:0≤(k:Int):=by omega
   have hi2:(k:Int)<l.length:=by omega
   have hri1':=hri1;have hri2':=hri2;obtain⟨v10,v11,v12,g10,g11,g12,rfl,rfl,hV10,hV11,hV12⟩:=GVal.opened.1 hri1;obtain⟨A10,c10,rfl,hqa,hqb⟩:=hV10.fK;clear hqa hqb hV10;obtain⟨A11,c11,rfl,hqa,hqb⟩:=hV11.fK;clear hqa hqb hV11;obtain⟨A12,c12,rfl,hqa,hqb⟩:=hV12.fK;clear hqa hqb hV12;have q10:wr.cell? ⟨b1,o1+k*7,none⟩=some (.int .i64 l[k].kind):=(hb.cell (p:=⟨b1,o1+k*7,none⟩) hbb1).trans (hat1.head);have q11:wr.cell? ⟨b1,o1+k*7+1,none⟩=some (.int .i64 l[k].n):=(hb.cell (p:=⟨b1,o1+k*7+1,none⟩) hbb1).trans (hat1.nth 1 rfl);have q12:wr.cell? ⟨b1,o1+k*7+2,none⟩=some (.int .i64 l[k].step):=(hb.cell (p:=⟨b1,o1+k*7+2,none⟩) hbb1).trans (hat1.nth 2 rfl);have q13:wr.cell? ⟨b1,o1+k*7+3,none⟩=some (.string l[k].text):=(hb.cell (p:=⟨b1,o1+k*7+3,none⟩) hbb1).trans (hat1.nth 3 rfl);have q14:wr.cell? ⟨b1,o1+k*7+4,none⟩=some (.slice A10 l[k].list.length c10):=(hb.cell (p:=⟨b1,o1+k*7+4,none⟩) hbb1).trans (hat1.nth 4 rfl);have q15:wr.cell? ⟨b1,o1+k*7+5,none⟩=some (.slice A11 l[k].cols.length c11):=(hb.cell (p:=⟨b1,o1+k*7+5,none⟩) hbb1).trans (hat1.nth 5 rfl);have q16:wr.cell? ⟨b1,o1+k*7+6,none⟩=some (.slice A12 l[k].rows.length c12):=(hb.cell (p:=⟨b1,o1+k*7+6,none⟩) hbb1).trans (hat1.nth 6 rfl);obtain⟨v20,v21,v22,g20,g21,g22,rfl,rfl,hV20,hV21,hV22⟩:=GVal.opened.1 hri2;obtain⟨A20,c20,rfl,hqa,hqb⟩:=hV20.fK;clear hqa hqb hV20;obtain⟨A21,c21,rfl,hqa,hqb⟩:=hV21.fK;clear hqa hqb hV21;obtain⟨A22,c22,rfl,hqa,hqb⟩:=hV22.fK;clear hqa hqb hV22;have q20:wr.cell? ⟨b2,o2+k*7,none⟩=some (.int .i64 l[k].kind):=(hb.cell (p:=⟨b2,o2+k*7,none⟩) hbb2).trans (hat2.head);have q21:wr.cell? ⟨b2,o2+k*7+1,none⟩=some (.int .i64 l[k].n):=(hb.cell (p:=⟨b2,o2+k*7+1,none⟩) hbb2).trans (hat2.nth 1 rfl);have q22:wr.cell? ⟨b2,o2+k*7+2,none⟩=some (.int .i64 l[k].step):=(hb.cell (p:=⟨b2,o2+k*7+2,none⟩) hbb2).trans (hat2.nth 2 rfl);have q23:wr.cell? ⟨b2,o2+k*7+3,none⟩=some (.string l[k].text):=(hb.cell (p:=⟨b2,o2+k*7+3,none⟩) hbb2).trans (hat2.nth 3 rfl);have q24:wr.cell? ⟨b2,o2+k*7+4,none⟩=some (.slice A20 l[k].list.length c20):=(hb.cell (p:=⟨b2,o2+k*7+4,none⟩) hbb2).trans (hat2.nth 4 rfl);have q25:wr.cell? ⟨b2,o2+k*7+5,none⟩=some (.slice A21 l[k].cols.length c21):=(hb.cell (p:=⟨b2,o2+k*7+5,none⟩) hbb2).trans (hat2.nth 5 rfl);have q26:wr.cell? ⟨b2,o2+k*7+6,none⟩=some (.slice A22 l[k].rows.length c22):=(hb.cell (p:=⟨b2,o2+k*7+6,none⟩) hbb2).trans (hat2.nth 6 rfl);clear hat1 hat2 hd hri1 hri2;have hbr1:b1<wr.heap.size:=c_ hbb1 hb.size;have hbr2:b2<wr.heap.size:=c_ hbb2 hb.size;have hP:∀wx:World,Below wr.heap.size wr wx→Calls Tryz.prog 8 _ wx (kC wx):=fun wx hwx=>hE _ (e_ hlt) wx _ _ _ _ ((hri1'.same (fun x hx=>hb.block x (hS1.lt x (hfi1 x hx))) hb.size).below hwx) ((hri2'.same (fun x hx=>hb.block x (hS2.lt x (hfi2 x hx))) hb.size).below hwx)
   clear hri1' hri2' hE
   go_wp2_with fail
   go_region_held3 (fun w'=>w'.cell? ⟨b1,o1+k*7,none⟩=some (.int .i64 l[k].kind)∧w'.cell? ⟨b1,o1+k*7+1,none⟩=some (.int .i64 l[k].n)∧w'.cell? ⟨b1,o1+k*7+2,none⟩=some (.int .i64 l[k].step)∧w'.cell? ⟨b1,o1+k*7+3,none⟩=some (.string l[k].text)∧w'.cell? ⟨b1,o1+k*7+4,none⟩=some (.slice A10 l[k].list.length c10)∧w'.cell? ⟨b1,o1+k*7+5,none⟩=some (.slice A11 l[k].cols.length c11)∧w'.cell? ⟨b1,o1+k*7+6,none⟩=some (.slice A12 l[k].rows.length c12)∧w'.cell? ⟨b2,o2+k*7,none⟩=some (.int .i64 l[k].kind)∧w'.cell? ⟨b2,o2+k*7+1,none⟩=some (.int .i64 l[k].n)∧w'.cell? ⟨b2,o2+k*7+2,none⟩=some (.int .i64 l[k].step)∧w'.cell? ⟨b2,o2+k*7+3,none⟩=some (.string l[k].text)∧w'.cell? ⟨b2,o2+k*7+4,none⟩=some (.slice A20 l[k].list.length c20)∧w'.cell? ⟨b2,o2+k*7+5,none⟩=some (.slice A21 l[k].cols.length c21)∧w'.cell? ⟨b2,o2+k*7+6,none⟩=some (.slice A22 l[k].rows.length c22)) (go_keep)
    ((go_at_call 8;refine(hP _ ?_).mono ?_;(exact(b_ _ _).drew);rintro e w1 ⟨rfl,hb1⟩;have hc1:∀o,w1.cell? ⟨b1,o,none⟩=wr.cell? ⟨b1,o,none⟩:=fun o=>hb1.cell (p:=⟨b1,o,none⟩) hbr1;have hc2:∀o,w1.cell? ⟨b2,o,none⟩=wr.cell? ⟨b2,o,none⟩:=fun o=>hb1.cell (p:=⟨b2,o,none⟩) hbr2))
   go_wp2_with fail
   go_roundw
   case rel=>exact⟨k+1,by omega,by go_num,hb.drew.trans (hb1.mono hb.size)⟩
   case measure=>simp[intOf];omega
  ·go_wp2_with fail
   go_ret
   exact⟨rfl,hb⟩
theorem GVal.uN(x:GVal):qH Tryz.prog 8 x.toD:=GVal.pV x (xH _ fun y hy=>GVal.uN y) (Cc _) (IZ _)
termination_by SizeOf.sizeOf x
decreasing_by exact GVal.lt_of_mem hy
end Go.Proofs.YtfengkmaphbofaaGreatDoor
